import Derived.ArgAppend
import Derived.Below
import Derived.BigQuiet
import Derived.Deep.AppendLies
import Derived.Deep.CutBlock
import Derived.Deep.DeepCutAuto
import Derived.Deep.Draws
import Derived.Deep.LoopGhost
import Derived.Deep.OwnRows
import Derived.Deep.QuietTactic
import Derived.Deep.RegionHeld3
import Derived.KernelRfl
import Derived.Laws.BitsLemmas
import Derived.Laws.BytesArg
import Derived.Laws.IdiomCopy
import Derived.Laws.MakeOwn
import Derived.Laws.OwnMore
import Derived.Laws.Rows
import Derived.Laws.Slices
import Derived.Laws.StructEq
import Derived.Lib.AppendStr
import Derived.Lib.ConvBytes
import Derived.Lib.SliceRun
import Derived.Maps.AppendAt
import Derived.OrdersHeld
import Derived.OwnWalk
import Derived.RowKit
import Derived.RowKit3
import Derived.Shelf.Abstract
import Derived.Shelf.Spec.TrailingZeros
import Derived.Tactics
import Derived.Test.YthbaocejgjpfoaaDoorProg
import Derived.WalkKit
import Derived.WideLaws
import Derived.Test.YthbaocejgjpfoaaDoorCFnExactParseExpression2
import Derived.Test.YthbaocejgjpfoaaDoorCFnExactParseExpression3
import Derived.Test.YthbaocejgjpfoaaDoorCFnExactParseExpression4
section M0
namespace Go.Proofs.YthbaocejgjpfoaaDoor.P
open Go.RowKit Go.Proofs.YthbaocejgjpfoaaDoor.Sh Go.Proofs.YthbaocejgjpfoaaDoorW.PrintWords Go.Proofs.YthbaocejgjpfoaaDoorW.PrintLast Go.Proofs.YthbaocejgjpfoaaDoorW.PrintMore
attribute [local go_sem] max2_int min2_int max_two min_two max_three min_three max_four min_four   -- for this text's walks alone
set_option linter.unusedVariables false
set_option linter.unusedSimpArgs false

/-! ### impl_DiamondFault: function 31 -/
/-! ### laws_markInt64S: function 35 -/
def laws_markInt64S.l0 : Nat → List Int → Int → Int → Option (Int × List Int)
 | 0, _, _, _ => none
 | k + 1, x0, x1, x5 => if x5 < (x0.length : Int) then (if 0 ≤ x5 then (laws_markInt64S.l0 k (x0.set (x5 : Int).toNat x1) (wrap64 (x1 + 1)) (wrap64 (x5 + 1))) else (none)) else (some (x1, x0))
def laws_markInt64S.f (k : Nat) (l0 : List Int) (a1 : Int) : Option (Int × List Int) := laws_markInt64S.l0 k l0 a1 0
set_option maxHeartbeats 8000000 in
set_option maxRecDepth 100000 in
theorem laws_markInt64S.calls (k : Nat) (P0_ : Nat → Prop) (u9000_ : Value) (l0 : List Int) (a1 : Int) (r1 : Int) (r2 : List Int) (w0 w : World) (hB : Below w0.heap.size w0 w) (ho0 : Kd.R (Kd.int .i64) 2 w w0.heap.size P0_ u9000_ l0) (h : laws_markInt64S.f k l0 a1 = some (r1, r2)) :
  Calls Tryd.prog 35 #[u9000_, .int .i64 a1] w fun e w' => e = .returned (.int .i64 r1) ∧ Kd.R (Kd.int .i64) 2 w' w0.heap.size (fun k_ => (P0_ k_ ∨ w.heap.size ≤ k_)) u9000_ r2 ∧ Below w0.heap.size w0 w' ∧ Kept w w' (fun k_ => P0_ k_) := by
 have HO0 := Aside0.mk (show Kd.R (Kd.int .i64) 2 w w0.heap.size (fun k_ => (P0_ k_ ∨ w.heap.size ≤ k_)) u9000_ l0 from Kd.R_mono ho0 (fun k_ hk => (.inl hk)))
 have HK := Aside0.mk (Kept.refl w (fun k_ => P0_ k_))
 have HW0 := Aside0.mk hB.size
 have HB := Aside0.mk hB
 clear hB
 have H : (laws_markInt64S.l0 k l0 a1 0) = some (r1, r2) := h
 clear h
 have H' := Aside0.mk H
 clear H
 go_enter Tryd.func35, Tryd.ntmps35
 go_wp2
 go_loopg [1, 5] k (fun kq v1 v5 w' => ∃ (x0_1 : List Int) (x1_1 : Int) (x5_1 : Int), v1 = .int .i64 x1_1 ∧ v5 = .int .i64 x5_1 ∧ Aside0 (laws_markInt64S.l0 kq x0_1 x1_1 x5_1 = some (r1, r2)) ∧ Aside0 (kq ≤ k) ∧ Aside0 (Kd.R (Kd.int .i64) 2 w' w0.heap.size (fun k_ => (P0_ k_ ∨ w.heap.size ≤ k_)) u9000_ x0_1) ∧ Aside0 (Kept w w' (fun k_ => P0_ k_)) ∧ Aside0 (Below w0.heap.size w0 w'))
 case atStart => exact ⟨(l0), (a1), (0), (eW), (eW), H', ⟨Nat.le_refl _⟩, ⟨(rP HO0.out)⟩, ⟨kW⟩, ⟨bW⟩⟩
 case round =>
  clear H'
  try clear p2
  obtain ⟨x0_1, x1_1, x5_1, rfl, rfl, HA, HK1, HO_0, HK, HB⟩ := hrel
  cases gk with
  | zero => exact absurd HA.out (by simp [laws_markInt64S.l0])
  | succ k1 =>
   have H := HA.out
   clear HA
   simp only [laws_markInt64S.l0] at H
   by_cases c3 : x5_1 < (x0_1.length : Int)
   ·rw [if_pos c3] at H
    have c3b0 : decide (x5_1 < (x0_1.length : Int)) = true := decide_eq_true c3
    clear c3
    by_cases c4 : 0 ≤ x5_1
    ·rw [if_pos c4] at H
     have c4b0 : decide (0 ≤ x5_1) = true := decide_eq_true c4
     clear c4
     obtain ⟨y524, hy524⟩ : ∃ y_ : List Int, y_ = (x0_1.set (x5_1 : Int).toNat x1_1) := ⟨_, rfl⟩
     replace H : (laws_markInt64S.l0 k1 y524 (wrap64 (x1_1 + 1)) (wrap64 (x5_1 + 1))) = some (r1, r2) := by first | (rw [hy524]; with_reducible exact H) | (have H2_ := (Option.bind_some _ _).symm.trans H; rw [hy524]; with_reducible exact H2_) | (have H2_ := (Option.bind_some _ _).symm.trans H; with_reducible exact H2_) | with_reducible exact H | (rw [hy524]; exact H) | exact H
     have Ny524 := Aside0.mk hy524
     clear hy524
     have H' := Aside0.mk H
     clear H
     obtain ⟨Ao6, co6, eo6⟩ := Kd.R_slice HO_0.out
     subst eo6
     have p5 : 0 ≤ (x5_1 : Int) := ofD
     have q5 : (x5_1 : Int) < ((x0_1.length : Int) : Int) := ofD
     obtain ⟨go5, co5, eo5, gb5, gl5, cl5, HG5⟩ := Kd.R_form HO_0.out (by omega)
     (first | cases eo5 | (injection eo5 with ea_ en_ ec_; (first | subst ea_ | (injection ea_ with ea_; subst ea_)); subst ec_; clear en_))
     have GB5 := Aside0.mk gb5
     have GG5 := Aside0.mk HG5
     clear gb5 gl5 HG5
     have HMgo5 := Aside0.mk (show (P0_ go5 ∨ w.heap.size ≤ go5) from (HO_0.out.1 _ rfl))
     obtain ⟨hx5_0, hf5_0⟩ := Kd.R_celln 0 HO_0.out (x5_1 : Int) p5 q5
     replace p5 := eq_true p5
     replace q5 := eq_true q5
     have HP7 := Kd.R_putg HO_0.out (x5_1 : Int) x1_1
     go_wp2_with (first | ((with_reducible refine gate_store (t := 2) (p := 15) rfl ?_); refine storeS (t := 2) (p := 15) (w1 := (wr.setCell ⟨go5, (x5_1 : Int).toNat, none⟩ (.int .i64 x1_1))) ?_; intro w8 hw; have hg : wr.grownBy w8 (some go5) := (by rw [hw]; exact HP7.2); have hp_ : Kd.R (Kd.int .i64) 2 w8 w0.heap.size (fun k_ => (P0_ k_ ∨ w.heap.size ≤ k_)) (.slice (some ⟨go5, 0, none⟩) x0_1.length co6) y524 := (by rw [hw, Ny524.out]; exact HP7.1); clear HP7; have n0_ := Aside0.mk (hp_); have n1_ := Aside0.mk ((by rw [hw]; exact below_set (HB.out) GB5.out : Below w0.heap.size w0 w8)); have n2_ := Aside0.mk (Kept.of_grown (S := (fun k_ => P0_ k_)) hg (kW) (fun k_ e_ => (HO_0.out.1 k_ e_))); clear HO_0; clear HB; clear HK; have HO_0 := n0_; have HB := n1_; have HK := n2_; clear n0_ n1_ n2_; clear hg hw hp_))
     go_roundg k1
     case measure => have := HK1.out; omega
     case rel => exact ⟨(y524), (wrap64 (x1_1 + 1)), (wrap64 (x5_1 + 1)), (eW), (eW), H', ⟨by have := HK1.out; omega⟩, ⟨(rP HO_0.out)⟩, ⟨kW⟩, ⟨bW⟩⟩
    ·rw [if_neg c4] at H
     exact absurd H (by simp)
   ·rw [if_neg c3] at H
    have c3b0 : decide (x5_1 < (x0_1.length : Int)) = false := decide_eq_false c3
    clear c3
    simp only [Option.some.injEq, Prod.mk.injEq] at H
    obtain ⟨rfl, rfl⟩ := H
    obtain ⟨Ao9, co9, eo9⟩ := Kd.R_slice HO_0.out
    subst eo9
    go_wp2
    go_ret
    exact ⟨eW, (rP HO_0.out), bW, kW⟩

/-! ### laws_markAlphabet: function 33 -/
def laws_markAlphabet.f (k : Nat) (a0_0 : Int) (l0_1 : List Int) (a1 : Int) : Option (Int × List Int) := (laws_markInt64S.f k l0_1 a1).bind fun bt526 => (some (bt526.1, bt526.2))
set_option maxHeartbeats 8000000 in
set_option maxRecDepth 100000 in
theorem laws_markAlphabet.calls (k : Nat) (a0_0 : Int) (P0_1_ : Nat → Prop) (u9000_ : Value) (l0_1 : List Int) (a1 : Int) (r1 : Int) (r2 : List Int) (w0 w : World) (hB : Below w0.heap.size w0 w) (ho0_1 : Kd.R (Kd.int .i64) 2 w w0.heap.size P0_1_ u9000_ l0_1) (h : laws_markAlphabet.f k a0_0 l0_1 a1 = some (r1, r2)) :
  Calls Tryd.prog 33 #[.agg #[.int .i64 a0_0, u9000_], .int .i64 a1] w fun e w' => e = .returned (.int .i64 r1) ∧ Kd.R (Kd.int .i64) 2 w' w0.heap.size (fun k_ => (P0_1_ k_ ∨ w.heap.size ≤ k_)) u9000_ r2 ∧ Below w0.heap.size w0 w' ∧ Kept w w' (fun k_ => P0_1_ k_) := by
 have hu29 := Tryd.underlying29
 have HO0_1 := Aside0.mk (show Kd.R (Kd.int .i64) 2 w w0.heap.size (fun k_ => (P0_1_ k_ ∨ w.heap.size ≤ k_)) u9000_ l0_1 from Kd.R_mono ho0_1 (fun k_ hk => (.inl hk)))
 have HK := Aside0.mk (Kept.refl w (fun k_ => P0_1_ k_))
 have HW0 := Aside0.mk hB.size
 have HB := Aside0.mk hB
 clear hB
 have H : ((laws_markInt64S.f k l0_1 a1).bind fun bt526 => (some (bt526.1, bt526.2))) = some (r1, r2) := h
 clear h
 replace H := Option.bind_eq_some_iff.mp H
 obtain ⟨⟨t526, t527⟩, A30, H⟩ := H
 replace H : (some (t526, t527)) = some (r1, r2) := H
 have A3 := Aside0.mk A30
 clear A30
 simp only [Option.some.injEq, Prod.mk.injEq] at H
 obtain ⟨rfl, rfl⟩ := H
 obtain ⟨Ao4, co4, eo4⟩ := Kd.R_slice HO0_1.out
 subst eo4
 go_enter Tryd.func33, Tryd.ntmps33
 go_wp2_with (first | ((with_reducible refine gate_dst (N := 2) rfl ?_); refine boxS (N := 2) (cs := #[.int .i64 a0_0, .slice Ao4 l0_1.length co4]) (t := 29) ?_; intro gb525 hg w5 hbox hb; have n0_ := Aside0.mk (Kd.R_below (rP HO0_1.out) hb); have n1_ := Aside0.mk (Kept.below (S := (fun k_ => P0_1_ k_)) (kW) hb); have n2_ := Aside0.mk (below_step (bW) hb); have n3_ := Aside0.mk (hbox); have n4_ := Aside0.mk ((by rw [hg]; exact (by first | exact HK.out.1 | exact (show Kept w _ (fun k_ => P0_1_ k_) from kW).1) : w.heap.size ≤ gb525)); have n5_ := geW (w := w0) hg; clear HO0_1; clear HK; clear HB; have HO0_1 := n0_; have HK := n1_; have HB := n2_; have BK525 := n3_; have GW525 := n4_; have GE525 := n5_; clear n0_ n1_ n2_ n3_ n4_ n5_; clear hb hbox hg; obtain ⟨hcz6_0, hcz6_1⟩ := cells2 BK525.out; obtain ⟨hfz6_0, hfz6_1⟩ := frz2 BK525.out) | ((with_reducible refine gate_callee (f := 35) rfl ?_); refine goesS (some 8) Tryd.func35 #[.slice Ao4 l0_1.length co4, .int .i64 a1] ?_; (with_reducible refine (laws_markInt64S.calls k (fun k_ => some k_ = (.slice Ao4 l0_1.length co4 : Value).ownBlock) (.slice Ao4 l0_1.length co4) l0_1 a1 t526 t527 w0 _ ?side1 ?side2 A3.out).mono ?_); (case side1 => repeat (first | (with_reducible first | exact HB.out | apply below_alloc | apply pw_below_drewN | apply below_drew1 | refine below_set ?_ GE525.out) | exact HB.out)); (case side2 => exact Kd.R_tight rfl HO0_1.out); rintro e w7 ⟨rfl, hy0, hb, hkp⟩; refine ⟨_, rfl, ?_⟩; have n0_ := Aside0.mk (Kd.R_reok rfl hy0 (fun k_ e_ => HO0_1.out.1 k_ e_)); have n1_ := Aside0.mk (blk_kept (bP BK525.out) hkp (fun hs_ => (fun e_ => (Kd.R_ne HO0_1.out BK525.out (by decide)) e_) hs_)); have n2_ := Aside0.mk (Kept.then_ (S := (fun k_ => P0_1_ k_)) (kW) hkp (fun k_ hs_ => (fun e_ => (HO0_1.out.1 k_ e_.symm)) hs_)); have n3_ := Aside0.mk (hb); clear HO0_1; clear BK525; clear HK; clear HB; have HO0_1 := n0_; have BK525 := n1_; have HK := n2_; have HB := n3_; clear n0_ n1_ n2_ n3_; (try clear hb); (try clear hkp); (try clear hy0)))
 go_ret
 exact ⟨eW, (rP HO0_1.out), bW, kW⟩

/-! ### laws_heldInt64S: function 36 -/

/-! ### laws_szJoint: function 126 -/
/-! ### laws_szJointS: function 72 -/
end Go.Proofs.YthbaocejgjpfoaaDoor.P
end M0
section M1
namespace Go.Proofs.YthbaocejgjpfoaaDoor.P
open Go.RowKit Go.Proofs.YthbaocejgjpfoaaDoor.Sh Go.Proofs.YthbaocejgjpfoaaDoorW.PrintWords Go.Proofs.YthbaocejgjpfoaaDoorW.PrintLast Go.Proofs.YthbaocejgjpfoaaDoorW.PrintMore
attribute [local go_sem] max2_int min2_int max_two min_two max_three min_three max_four min_four   -- for this text's walks alone
set_option linter.unusedVariables false
set_option linter.unusedSimpArgs false

/-! ### spec_l13Read: function 86 -/
mutual
def spec_l13Read.j2 : Nat → ByteArray → Int → List (S84) → Option ((List (S84)) × Int)
 | 0, _, _, _ => none
 | k + 1, x0, x1, x6 => spec_l13Read.l0 k x0 x1 x6
def spec_l13Read.l0 : Nat → ByteArray → Int → List (S84) → Option ((List (S84)) × Int)
 | 0, _, _, _ => none
 | k + 1, x0, x1, x6 => if x1 < (x0.size : Int) then (if 0 ≤ x1 then (if (bt x0 x1) = 42 then ((some (([(⟨5, 0⟩ : S84)] : List (S84)) : List (S84))).bind fun y815 => (if y815.length + x6.length < 8796093022208 then (spec_l13Read.l0 k x0 (wrap64 (x1 + 1)) (y815 ++ x6)) else (none))) else (some (x6, x1))) else (none)) else (some (x6, x1))
def spec_l13Read.j0 : Nat → ByteArray → Int → Int → Bool → Option ((List (S84)) × Int)
 | 0, _, _, _, _ => none
 | k + 1, x0, x1, x7, x35 => if x35 = true then (spec_l13Read.j2 k x0 x1 (([(⟨2, (x7 - 97) % 256⟩ : S84)] : List (S84)))) else (if x7 = 40 then ((spec_l13Read.f k x0 x1).bind fun bt785 => (if (bt785.1.length : Int) = 0 then (spec_l13Read.j1 k x0 x1 bt785.1 bt785.2 true) else (if bt785.2 ≥ (x0.size : Int) then (spec_l13Read.j1 k x0 x1 bt785.1 bt785.2 true) else (if 0 ≤ bt785.2 then (if bt785.2 < (x0.size : Int) then (if (bt x0 bt785.2) = 43 then (spec_l13Read.j1 k x0 x1 bt785.1 bt785.2 false) else (spec_l13Read.j1 k x0 x1 bt785.1 bt785.2 ((bt x0 bt785.2) != 46))) else (none)) else (none))))) else (some (([] : List (S84)), x1)))
def spec_l13Read.j1 : Nat → ByteArray → Int → List (S84) → Int → Bool → Option ((List (S84)) × Int)
 | 0, _, _, _, _, _ => none
 | k + 1, x0, x1, x8, x9, x76 => if x76 = true then (some (([] : List (S84)), x1)) else (if 0 ≤ x9 then (if x9 < (x0.size : Int) then (if (bt x0 x9) = 46 then ((spec_l13Read.f k x0 (wrap64 (x9 + 1))).bind fun bt789 => (if (bt789.1.length : Int) = 0 then (some (([] : List (S84)), x1)) else (if bt789.2 ≥ (x0.size : Int) then (some (([] : List (S84)), x1)) else (if 0 ≤ bt789.2 then (if bt789.2 < (x0.size : Int) then (if (bt x0 bt789.2) = 41 then ((some (([(⟨4, 0⟩ : S84)] : List (S84)) : List (S84))).bind fun y793 => (if y793.length + x8.length < 8796093022208 then ((some (y793 ++ x8 : List (S84))).bind fun y796 => (if y796.length + bt789.1.length < 8796093022208 then (spec_l13Read.j2 k x0 (wrap64 (bt789.2 + 1)) (y796 ++ bt789.1)) else (none))) else (none))) else (some (([] : List (S84)), x1))) else (none)) else (none))))) else ((spec_l13Read.f k x0 (wrap64 (x9 + 1))).bind fun bt802 => (if (bt802.1.length : Int) = 0 then (some (([] : List (S84)), x1)) else (if bt802.2 ≥ (x0.size : Int) then (some (([] : List (S84)), x1)) else (if 0 ≤ bt802.2 then (if bt802.2 < (x0.size : Int) then (if (bt x0 bt802.2) = 41 then ((some (([(⟨3, 0⟩ : S84)] : List (S84)) : List (S84))).bind fun y806 => (if y806.length + x8.length < 8796093022208 then ((some (y806 ++ x8 : List (S84))).bind fun y809 => (if y809.length + bt802.1.length < 8796093022208 then (spec_l13Read.j2 k x0 (wrap64 (bt802.2 + 1)) (y809 ++ bt802.1)) else (none))) else (none))) else (some (([] : List (S84)), x1))) else (none)) else (none)))))) else (none)) else (none))
def spec_l13Read.f : Nat → ByteArray → Int → Option ((List (S84)) × Int)
 | 0, _, _ => none
 | k + 1, a0, a1 => if a1 ≥ (a0.size : Int) then (some (([] : List (S84)), a1)) else (if 0 ≤ a1 then (if a1 < (a0.size : Int) then (if (bt a0 a1) = 48 then (spec_l13Read.j2 k a0 (wrap64 (a1 + 1)) (([(⟨0, 0⟩ : S84)] : List (S84)))) else (if (bt a0 a1) = 49 then (spec_l13Read.j2 k a0 (wrap64 (a1 + 1)) (([(⟨1, 0⟩ : S84)] : List (S84)))) else (if (bt a0 a1) ≥ 97 then (spec_l13Read.j0 k a0 (wrap64 (a1 + 1)) (bt a0 a1) (decide ((bt a0 a1) ≤ 104))) else (spec_l13Read.j0 k a0 (wrap64 (a1 + 1)) (bt a0 a1) false)))) else (none)) else (none))
end
set_option maxHeartbeats 8000000 in
set_option maxRecDepth 100000 in
theorem spec_l13Read.calls (k : Nat) : ∀ (a0 : ByteArray) (a1 : Int) (r1 : List (S84)) (r2 : Int) (w : World) (h : spec_l13Read.f k a0 a1 = some (r1, r2)),
  Calls Tryd.prog 86 #[.string a0, .int .i64 a1] w fun e w' => ∃ v0_ : Value, e = .returned (.tuple #[v0_, .int .i64 r2]) ∧ Kd.R k84 84 w' w.heap.size (fun _ => True) v0_ r1 ∧ Below w.heap.size w w' := by
 induction k using Nat.strongRecOn with
 | _ k ih =>
 intro a0 a1 r1 r2 w h
 cases k with
 | zero => exact absurd h (by simp [spec_l13Read.f])
 | succ k =>
 simp only [spec_l13Read.f] at h
 have hu84 := Tryd.underlying84
 have HB := Aside0.mk (Below.refl w.heap.size w)
 have H : (if a1 ≥ (a0.size : Int) then (some (([] : List (S84)), a1)) else (if 0 ≤ a1 then (if a1 < (a0.size : Int) then (if (bt a0 a1) = 48 then (spec_l13Read.j2 k a0 (wrap64 (a1 + 1)) (([(⟨0, 0⟩ : S84)] : List (S84)))) else (if (bt a0 a1) = 49 then (spec_l13Read.j2 k a0 (wrap64 (a1 + 1)) (([(⟨1, 0⟩ : S84)] : List (S84)))) else (if (bt a0 a1) ≥ 97 then (spec_l13Read.j0 k a0 (wrap64 (a1 + 1)) (bt a0 a1) (decide ((bt a0 a1) ≤ 104))) else (spec_l13Read.j0 k a0 (wrap64 (a1 + 1)) (bt a0 a1) false)))) else (none)) else (none))) = some (r1, r2) := h
 clear h
 by_cases c3 : a1 ≥ (a0.size : Int)
 ·rw [if_pos c3] at H
  have c3b0 : decide ((a0.size : Int) ≤ a1) = true := decide_eq_true c3
  clear c3
  simp only [Option.some.injEq, Prod.mk.injEq] at H
  obtain ⟨rfl, rfl⟩ := H
  go_enter Tryd.func86, Tryd.ntmps86
  go_wp2
  go_ret2
  exact ⟨_, eW, by first | exact Kd.R_nil _ _ _ _ _ | exact Kd.N_nil _ _ _ _ _ | exact Kd.V_nil _ _ _ _ _ | exact Kd.Q_nil _ _ _ _ _ | exact Kd.S_nil _ _ _ _ _, bW⟩
 ·rw [if_neg c3] at H
  have c3b0 : decide ((a0.size : Int) ≤ a1) = false := decide_eq_false c3
  clear c3
  obtain ⟨y773, hy773⟩ : ∃ y_ : List (S84), y_ = (([] : List (S84))) := ⟨_, rfl⟩
  replace H : (if 0 ≤ a1 then (if a1 < (a0.size : Int) then (if (bt a0 a1) = 48 then (spec_l13Read.j2 k a0 (wrap64 (a1 + 1)) (([(⟨0, 0⟩ : S84)] : List (S84)))) else (if (bt a0 a1) = 49 then (spec_l13Read.j2 k a0 (wrap64 (a1 + 1)) (([(⟨1, 0⟩ : S84)] : List (S84)))) else (if (bt a0 a1) ≥ 97 then (spec_l13Read.j0 k a0 (wrap64 (a1 + 1)) (bt a0 a1) (decide ((bt a0 a1) ≤ 104))) else (spec_l13Read.j0 k a0 (wrap64 (a1 + 1)) (bt a0 a1) false)))) else (none)) else (none)) = some (r1, r2) := by first | (rw [hy773]; with_reducible exact H) | (have H2_ := (Option.bind_some _ _).symm.trans H; rw [hy773]; with_reducible exact H2_) | (have H2_ := (Option.bind_some _ _).symm.trans H; with_reducible exact H2_) | with_reducible exact H | (rw [hy773]; exact H) | exact H
  have Ny773 := Aside0.mk hy773
  clear hy773
  by_cases c4 : 0 ≤ a1
  ·rw [if_pos c4] at H
   have c4b0 : decide (0 ≤ a1) = true := decide_eq_true c4
   clear c4
   by_cases c5 : a1 < (a0.size : Int)
   ·rw [if_pos c5] at H
    have c5b0 : decide (a1 < (a0.size : Int)) = true := decide_eq_true c5
    clear c5
    have HC7 := Aside0.mk H
    clear H
    go_enter Tryd.func86, Tryd.ntmps86
    go_upto_block 0 with (first | ((with_reducible refine gate_dst (N := 18) rfl ?_); (try (refine gate_guard (by rfl) ?_; dsimp only)); refine Kd.R_lit k84 _ 84 ?hg (N := 18) ?hd (xs := ([] : List (S84))) (inner := []) (ok := fun _ => True) (okp := fun _ => True) ?hr ?hp (fun _ hk => hk) trivial (Below.refl _ _) (Nat.le_refl _) (by simp) ?_; (case hd => rfl); (case hg => rfl); (case hr => first | (go_simp; done) | (go_simp; rfl)); (case hp => exact (Reps.none _ _)); intro v774 w8 ho9 hb hg_ hnew_; clear hg_ hnew_; (first | rw [← Ny773.out] at ho9 | (simp only [Int.reduceToNat] at ho9; rw [← Ny773.out] at ho9)); have n0_ := Aside0.mk (Kd.R_lower ho9 (below_size (bW))); have n1_ := Aside0.mk (below_step (bW) hb); clear HB; have HO775 := n0_; have HB := n1_; clear n0_ n1_; clear hb ho9; have p6 : 0 ≤ (a1 : Int) := ofD; have q6 : a1 < (a0.size : Int) := ofD; have hx6 := bt_at a0 a1; replace p6 := eq_true p6; replace q6 := eq_true q6))
    (try simp only [Act.put, List.setIfInBounds_toArray, List.set_cons_zero, List.set_cons_succ])
    go_cut [1, 6] (fun v1 v6 wc => ∃ (kq : Nat) (x1_6 : Int) (x6_6 : List (S84)), v1 = .int .i64 x1_6 ∧ Aside0 (spec_l13Read.j2 kq a0 x1_6 x6_6 = some (r1, r2)) ∧ Aside0 (kq ≤ k) ∧ Aside0 (Kd.R k84 84 wc w.heap.size (fun _ => True) v6 x6_6) ∧ Aside0 (Below w.heap.size w wc))
    case first =>
     have H := HC7.out
     clear HC7
     by_cases c10 : (bt a0 a1) = 48
     ·rw [if_pos c10] at H
      have c10b0 : ((bt a0 a1) == 48) = true := beq_iff_eq.mpr c10
      have c10b1 : ((bt a0 a1) != 48) = false := bne_eq_false_iff_eq.mpr c10
      clear c10
      (first | rw [c10b0] | (simp only [i64_w, i32_w]; rw [c10b0]) | skip)
      obtain ⟨y776, hy776⟩ : ∃ y_ : List (S84), y_ = (([(⟨0, 0⟩ : S84)] : List (S84))) := ⟨_, rfl⟩
      replace H : (spec_l13Read.j2 k a0 (wrap64 (a1 + 1)) y776) = some (r1, r2) := by first | (rw [hy776]; with_reducible exact H) | (have H2_ := (Option.bind_some _ _).symm.trans H; rw [hy776]; with_reducible exact H2_) | (have H2_ := (Option.bind_some _ _).symm.trans H; with_reducible exact H2_) | with_reducible exact H | (rw [hy776]; exact H) | exact H
      have Ny776 := Aside0.mk hy776
      clear hy776
      have H' := Aside0.mk H
      clear H
      go_wp2_with (first | ((with_reducible refine gate_dst (N := 29) rfl ?_); (try (refine gate_guard (by rfl) ?_; dsimp only)); refine Kd.R_lit k84 _ 84 ?hg (N := 29) ?hd (xs := ([(⟨0, 0⟩ : S84)] : List (S84))) (inner := [.int .i64 0, .int .i64 0]) (ok := fun _ => True) (okp := fun _ => True) ?hr ?hp (fun _ hk => hk) trivial (Below.refl _ _) (Nat.le_refl _) (by simp) ?_; (case hd => rfl); (case hg => rfl); (case hr => first | (go_simp; done) | (go_simp; rfl)); (case hp => exact (Reps.c2 (show Kd.M k84 _ _ _ (⟨0, 0⟩ : S84) [.int .i64 0, .int .i64 0] from (k84_mkM _ _ _ (⟨0, 0⟩ : S84) )) (Reps.none _ _))); intro v777 w11 ho12 hb hg_ hnew_; clear hg_ hnew_; (first | rw [← Ny776.out] at ho12 | (simp only [Int.reduceToNat] at ho12; rw [← Ny776.out] at ho12)); have n0_ := Aside0.mk (Kd.R_elder' (rP HO775.out) (Kd.R_base ho12) hb); have n1_ := Aside0.mk (Kd.R_lower (Kd.R_new' ho12 (Kd.R_lt (rP HO775.out))) (below_size (bW))); have n2_ := Aside0.mk (below_step (bW) hb); clear HO775; clear HB; have HO775 := n0_; have HO778 := n1_; have HB := n2_; clear n0_ n1_ n2_; clear hb ho12))
      go_meet
      case rel => exact ⟨_, (wrap64 (a1 + 1)), (y776), (eW), H', ⟨by first | omega | exact Nat.le_refl _⟩, ⟨by (with_reducible repeat (first | apply Kd.R_alloc | apply Kd.R_drewN | apply Kd.R_drew)); exact Kd.R_mono HO778.out (fun _ hk => trivial)⟩, ⟨bW⟩⟩
     ·rw [if_neg c10] at H
      have c10b0 : ((bt a0 a1) == 48) = false := beq_eq_false_iff_ne.mpr c10
      have c10b1 : ((bt a0 a1) != 48) = true := bne_iff_ne.mpr c10
      (first | rw [c10b0] | (simp only [i64_w, i32_w]; rw [c10b0]) | skip)
      by_cases c13 : (bt a0 a1) = 49
      ·rw [if_pos c13] at H
       have c13b0 : ((bt a0 a1) == 49) = true := beq_iff_eq.mpr c13
       have c13b1 : ((bt a0 a1) != 49) = false := bne_eq_false_iff_eq.mpr c13
       clear c13
       obtain ⟨y779, hy779⟩ : ∃ y_ : List (S84), y_ = (([(⟨1, 0⟩ : S84)] : List (S84))) := ⟨_, rfl⟩
       replace H : (spec_l13Read.j2 k a0 (wrap64 (a1 + 1)) y779) = some (r1, r2) := by first | (rw [hy779]; with_reducible exact H) | (have H2_ := (Option.bind_some _ _).symm.trans H; rw [hy779]; with_reducible exact H2_) | (have H2_ := (Option.bind_some _ _).symm.trans H; with_reducible exact H2_) | with_reducible exact H | (rw [hy779]; exact H) | exact H
       have Ny779 := Aside0.mk hy779
       clear hy779
       have H' := Aside0.mk H
       clear H
       go_wp2_with (first | ((with_reducible refine gate_dst (N := 34) rfl ?_); (try (refine gate_guard (by rfl) ?_; dsimp only)); refine Kd.R_lit k84 _ 84 ?hg (N := 34) ?hd (xs := ([(⟨1, 0⟩ : S84)] : List (S84))) (inner := [.int .i64 1, .int .i64 0]) (ok := fun _ => True) (okp := fun _ => True) ?hr ?hp (fun _ hk => hk) trivial (Below.refl _ _) (Nat.le_refl _) (by simp) ?_; (case hd => rfl); (case hg => rfl); (case hr => first | (go_simp; done) | (go_simp; rfl)); (case hp => exact (Reps.c2 (show Kd.M k84 _ _ _ (⟨1, 0⟩ : S84) [.int .i64 1, .int .i64 0] from (k84_mkM _ _ _ (⟨1, 0⟩ : S84) )) (Reps.none _ _))); intro v780 w14 ho15 hb hg_ hnew_; clear hg_ hnew_; (first | rw [← Ny779.out] at ho15 | (simp only [Int.reduceToNat] at ho15; rw [← Ny779.out] at ho15)); have n0_ := Aside0.mk (Kd.R_elder' (rP HO775.out) (Kd.R_base ho15) hb); have n1_ := Aside0.mk (Kd.R_lower (Kd.R_new' ho15 (Kd.R_lt (rP HO775.out))) (below_size (bW))); have n2_ := Aside0.mk (below_step (bW) hb); clear HO775; clear HB; have HO775 := n0_; have HO781 := n1_; have HB := n2_; clear n0_ n1_ n2_; clear hb ho15))
       go_meet
       case rel => exact ⟨_, (wrap64 (a1 + 1)), (y779), (eW), H', ⟨by first | omega | exact Nat.le_refl _⟩, ⟨by (with_reducible repeat (first | apply Kd.R_alloc | apply Kd.R_drewN | apply Kd.R_drew)); exact Kd.R_mono HO781.out (fun _ hk => trivial)⟩, ⟨bW⟩⟩
      ·rw [if_neg c13] at H
       have c13b0 : ((bt a0 a1) == 49) = false := beq_eq_false_iff_ne.mpr c13
       have c13b1 : ((bt a0 a1) != 49) = true := bne_iff_ne.mpr c13
       have HC16 := Aside0.mk H
       clear H
       go_upto_region 11 with (fail)
       go_cut [35] (fun v35 wc => ∃ (kq : Nat) (x35_15 : Bool), v35 = .bool x35_15 ∧ Aside0 (spec_l13Read.j0 kq a0 (wrap64 (a1 + 1)) (bt a0 a1) x35_15 = some (r1, r2)) ∧ Aside0 (kq ≤ k) ∧ Aside0 (Below w.heap.size w wc))
       case first =>
        have H := HC16.out
        clear HC16
        by_cases c17 : (bt a0 a1) ≥ 97
        ·rw [if_pos c17] at H
         have c17b0 : decide (97 ≤ (bt a0 a1)) = true := decide_eq_true c17
         clear c17
         (first | rw [c17b0] | (simp only [i64_w, i32_w]; rw [c17b0]) | skip)
         have H' := Aside0.mk H
         clear H
         go_wp2
         go_meet
         case rel => exact ⟨_, (decide ((bt a0 a1) ≤ 104)), (eW), H', ⟨by first | omega | exact Nat.le_refl _⟩, ⟨bW⟩⟩
        ·rw [if_neg c17] at H
         have c17b0 : decide (97 ≤ (bt a0 a1)) = false := decide_eq_false c17
         clear c17
         (first | rw [c17b0] | (simp only [i64_w, i32_w]; rw [c17b0]) | skip)
         have H' := Aside0.mk H
         clear H
         go_wp2
         go_meet
         case rel => exact ⟨_, (false), (eW), H', ⟨by first | omega | exact Nat.le_refl _⟩, ⟨bW⟩⟩
       case rest =>
        clear HC16
        try clear c1
        try clear c2
        try clear p2
        try clear c3
        try clear c3b0
        try clear c4
        try clear c4b0
        try clear c5
        try clear c5b0
        try clear p6
        try clear q6
        try clear hx6
        try clear c8
        try clear c10
        try clear c10b0
        try clear c10b1
        try clear c13
        try clear c13b0
        try clear c13b1
        try clear c17
        try clear c17b0
        try clear p6
        try clear q6
        obtain ⟨kq, x35_15, rfl, HA, HJ15, HB⟩ := hcut
        cases kq with
        | zero => exact absurd HA.out (by simp [spec_l13Read.j0])
        | succ kj15 =>
         have H := HA.out
         clear HA
         simp only [spec_l13Read.j0] at H
         by_cases c18 : x35_15 = true
         ·subst c18
          have H1 : (spec_l13Read.j2 kj15 a0 (wrap64 (a1 + 1)) (([(⟨2, ((bt a0 a1) - 97) % 256⟩ : S84)] : List (S84)))) = some (r1, r2) := by rw [if_pos rfl] at H; exact H
          clear H
          have H := H1
          clear H1
          obtain ⟨y782, hy782⟩ : ∃ y_ : List (S84), y_ = (([(⟨2, ((bt a0 a1) - 97) % 256⟩ : S84)] : List (S84))) := ⟨_, rfl⟩
          replace H : (spec_l13Read.j2 kj15 a0 (wrap64 (a1 + 1)) y782) = some (r1, r2) := by first | (rw [hy782]; with_reducible exact H) | (have H2_ := (Option.bind_some _ _).symm.trans H; rw [hy782]; with_reducible exact H2_) | (have H2_ := (Option.bind_some _ _).symm.trans H; with_reducible exact H2_) | with_reducible exact H | (rw [hy782]; exact H) | exact H
          have Ny782 := Aside0.mk hy782
          clear hy782
          have H' := Aside0.mk H
          clear H
          go_wp2_with (first | ((with_reducible refine gate_dst (N := 46) rfl ?_); (try (refine gate_guard (by rfl) ?_; dsimp only)); refine Kd.R_lit k84 _ 84 ?hg (N := 46) ?hd (xs := ([(⟨2, ((bt a0 a1) - 97) % 256⟩ : S84)] : List (S84))) (inner := [.int .i64 2, .int .i64 (((bt a0 a1) - 97) % 256)]) (ok := fun _ => True) (okp := fun _ => True) ?hr ?hp (fun _ hk => hk) trivial (Below.refl _ _) (Nat.le_refl _) (by simp) ?_; (case hd => rfl); (case hg => rfl); (case hr => first | (go_simp; done) | (go_simp; rfl)); (case hp => exact (Reps.c2 (show Kd.M k84 _ _ _ (⟨2, ((bt a0 a1) - 97) % 256⟩ : S84) [.int .i64 2, .int .i64 (((bt a0 a1) - 97) % 256)] from (k84_mkM _ _ _ (⟨2, ((bt a0 a1) - 97) % 256⟩ : S84) )) (Reps.none _ _))); intro v783 w19 ho20 hb hg_ hnew_; clear hg_ hnew_; (first | rw [← Ny782.out] at ho20 | (simp only [Int.reduceToNat] at ho20; rw [← Ny782.out] at ho20)); have n0_ := Aside0.mk (Kd.R_lower ho20 (below_size (bW))); have n1_ := Aside0.mk (below_step (bW) hb); clear HB; have HO784 := n0_; have HB := n1_; clear n0_ n1_; clear hb ho20))
          go_meet
          case rel => exact ⟨_, ((wrap64 (a1 + 1))), (y782), (eW), H', ⟨by have := HJ15.out; first | omega | exact Nat.le_refl _⟩, ⟨(rP HO784.out)⟩, ⟨bW⟩⟩
         ·replace c18 := Bool.eq_false_iff.mpr c18
          subst c18
          have H1 : (if (bt a0 a1) = 40 then ((spec_l13Read.f kj15 a0 (wrap64 (a1 + 1))).bind fun bt785 => (if (bt785.1.length : Int) = 0 then (spec_l13Read.j1 kj15 a0 (wrap64 (a1 + 1)) bt785.1 bt785.2 true) else (if bt785.2 ≥ (a0.size : Int) then (spec_l13Read.j1 kj15 a0 (wrap64 (a1 + 1)) bt785.1 bt785.2 true) else (if 0 ≤ bt785.2 then (if bt785.2 < (a0.size : Int) then (if (bt a0 bt785.2) = 43 then (spec_l13Read.j1 kj15 a0 (wrap64 (a1 + 1)) bt785.1 bt785.2 false) else (spec_l13Read.j1 kj15 a0 (wrap64 (a1 + 1)) bt785.1 bt785.2 ((bt a0 bt785.2) != 46))) else (none)) else (none))))) else (some (([] : List (S84)), (wrap64 (a1 + 1))))) = some (r1, r2) := by rw [if_neg (show ¬ (false = true) by decide)] at H; exact H
          clear H
          have H := H1
          clear H1
          by_cases c21 : (bt a0 a1) = 40
          ·rw [if_pos c21] at H
           have c21b0 : ((bt a0 a1) == 40) = true := beq_iff_eq.mpr c21
           have c21b1 : ((bt a0 a1) != 40) = false := bne_eq_false_iff_eq.mpr c21
           clear c21
           replace H := Option.bind_eq_some_iff.mp H
           obtain ⟨⟨t785, t786⟩, A220, H⟩ := H
           replace H : (if (t785.length : Int) = 0 then (spec_l13Read.j1 kj15 a0 (wrap64 (a1 + 1)) t785 t786 true) else (if t786 ≥ (a0.size : Int) then (spec_l13Read.j1 kj15 a0 (wrap64 (a1 + 1)) t785 t786 true) else (if 0 ≤ t786 then (if t786 < (a0.size : Int) then (if (bt a0 t786) = 43 then (spec_l13Read.j1 kj15 a0 (wrap64 (a1 + 1)) t785 t786 false) else (spec_l13Read.j1 kj15 a0 (wrap64 (a1 + 1)) t785 t786 ((bt a0 t786) != 46))) else (none)) else (none)))) = some (r1, r2) := H
           have A22 := Aside0.mk A220
           clear A220
           have HC23 := Aside0.mk H
           clear H
           go_upto_region 15 with (first | ((with_reducible refine gate_callee (f := 86) rfl ?_); refine goesS (some 53) Tryd.func86 #[.string a0, .int .i64 (wrap64 (a1 + 1))] ?_; (with_reducible refine (ih kj15 (by have := HJ15.out; omega) a0 (wrap64 (a1 + 1)) t785 t786 _ A22.out).mono ?_); rintro e w24 ⟨v787, rfl, ho0, hb⟩; refine ⟨_, rfl, ?_⟩; have n0_ := Aside0.mk (Kd.R_lower ho0 (below_size (bW))); have n1_ := Aside0.mk (below_step (bW) hb); clear HB; have HO788 := n0_; have HB := n1_; clear n0_ n1_; (try clear hb); (try clear hb2); (try clear hk); (try clear hi); (try clear ho0)))
           (try simp only [Act.put, List.setIfInBounds_toArray, List.set_cons_zero, List.set_cons_succ])
           go_cut [76] (fun v76 wc => ∃ (kq : Nat) (x76_22 : Bool), v76 = .bool x76_22 ∧ Aside0 (spec_l13Read.j1 kq a0 (wrap64 (a1 + 1)) t785 t786 x76_22 = some (r1, r2)) ∧ Aside0 (kq ≤ kj15) ∧ Aside0 (Kd.R k84 84 wc w.heap.size (fun _ => True) v787 t785) ∧ Aside0 (Below w.heap.size w wc))
           case first =>
            have H := HC23.out
            clear HC23
            by_cases c25 : (t785.length : Int) = 0
            ·rw [if_pos c25] at H
             have c25b0 : ((t785.length : Int) == 0) = true := beq_iff_eq.mpr c25
             have c25b1 : ((t785.length : Int) != 0) = false := bne_eq_false_iff_eq.mpr c25
             clear c25
             (first | rw [c25b0] | (simp only [i64_w, i32_w]; rw [c25b0]) | skip)
             have H' := Aside0.mk H
             clear H
             obtain ⟨Ao26, co26, eo26⟩ := Kd.R_slice HO788.out
             subst eo26
             go_wp2
             go_meet
             case rel => exact ⟨_, (true), (eW), H', ⟨by have := HJ15.out; first | omega | exact Nat.le_refl _⟩, ⟨(rP HO788.out)⟩, ⟨bW⟩⟩
            ·rw [if_neg c25] at H
             have c25b0 : ((t785.length : Int) == 0) = false := beq_eq_false_iff_ne.mpr c25
             have c25b1 : ((t785.length : Int) != 0) = true := bne_iff_ne.mpr c25
             have c25b2 : ¬ (t785 = []) := fun h_ => c25 (by rw [h_]; rfl)
             (first | rw [c25b0] | (simp only [i64_w, i32_w]; rw [c25b0]) | skip)
             by_cases c27 : t786 ≥ (a0.size : Int)
             ·rw [if_pos c27] at H
              have c27b0 : decide ((a0.size : Int) ≤ t786) = true := decide_eq_true c27
              clear c27
              have H' := Aside0.mk H
              clear H
              obtain ⟨Ao28, co28, eo28⟩ := Kd.R_slice HO788.out
              subst eo28
              go_wp2
              go_meet
              case rel => exact ⟨_, (true), (eW), H', ⟨by have := HJ15.out; first | omega | exact Nat.le_refl _⟩, ⟨(rP HO788.out)⟩, ⟨bW⟩⟩
             ·rw [if_neg c27] at H
              have c27b0 : decide ((a0.size : Int) ≤ t786) = false := decide_eq_false c27
              clear c27
              by_cases c29 : 0 ≤ t786
              ·rw [if_pos c29] at H
               have c29b0 : decide (0 ≤ t786) = true := decide_eq_true c29
               clear c29
               by_cases c30 : t786 < (a0.size : Int)
               ·rw [if_pos c30] at H
                have c30b0 : decide (t786 < (a0.size : Int)) = true := decide_eq_true c30
                clear c30
                by_cases c32 : (bt a0 t786) = 43
                ·rw [if_pos c32] at H
                 have c32b0 : ((bt a0 t786) == 43) = true := beq_iff_eq.mpr c32
                 have c32b1 : ((bt a0 t786) != 43) = false := bne_eq_false_iff_eq.mpr c32
                 clear c32
                 have H' := Aside0.mk H
                 clear H
                 obtain ⟨Ao33, co33, eo33⟩ := Kd.R_slice HO788.out
                 subst eo33
                 have p31 : 0 ≤ (t786 : Int) := ofD
                 have q31 : t786 < (a0.size : Int) := ofD
                 have hx31 := bt_at a0 t786
                 replace p31 := eq_true p31
                 replace q31 := eq_true q31
                 go_wp2
                 go_meet
                 case rel => exact ⟨_, (false), (eW), H', ⟨by have := HJ15.out; first | omega | exact Nat.le_refl _⟩, ⟨(rP HO788.out)⟩, ⟨bW⟩⟩
                ·rw [if_neg c32] at H
                 have c32b0 : ((bt a0 t786) == 43) = false := beq_eq_false_iff_ne.mpr c32
                 have c32b1 : ((bt a0 t786) != 43) = true := bne_iff_ne.mpr c32
                 have H' := Aside0.mk H
                 clear H
                 obtain ⟨Ao35, co35, eo35⟩ := Kd.R_slice HO788.out
                 subst eo35
                 have p31 : 0 ≤ (t786 : Int) := ofD
                 have q31 : t786 < (a0.size : Int) := ofD
                 have hx31 := bt_at a0 t786
                 replace p31 := eq_true p31
                 replace q31 := eq_true q31
                 have p34 : 0 ≤ (t786 : Int) := ofD
                 have q34 : t786 < (a0.size : Int) := ofD
                 have hx34 := bt_at a0 t786
                 replace p34 := eq_true p34
                 replace q34 := eq_true q34
                 go_wp2
                 go_meet
                 case rel => exact ⟨_, (((bt a0 t786) != 46)), (eW), H', ⟨by have := HJ15.out; first | omega | exact Nat.le_refl _⟩, ⟨(rP HO788.out)⟩, ⟨bW⟩⟩
               ·rw [if_neg c30] at H
                exact absurd H (by simp)
              ·rw [if_neg c29] at H
               exact absurd H (by simp)
           case rest =>
            clear HC23
            try clear c1
            try clear c2
            try clear p2
            try clear c3
            try clear c3b0
            try clear p3
            try clear q3
            try clear hx3
            try clear c4
            try clear c4b0
            try clear c5
            try clear c5b0
            try clear p6
            try clear q6
            try clear hx6
            try clear c8
            try clear c10
            try clear c10b0
            try clear c10b1
            try clear c13
            try clear c13b0
            try clear c13b1
            try clear c17
            try clear c17b0
            try clear c18
            try clear c21
            try clear c21b0
            try clear c21b1
            try clear c25
            try clear c25b0
            try clear c25b1
            try clear c25b2
            try clear c27
            try clear c27b0
            try clear c29
            try clear c29b0
            try clear c30
            try clear c30b0
            try clear p31
            try clear q31
            try clear hx31
            try clear c32
            try clear c32b0
            try clear c32b1
            try clear p34
            try clear q34
            try clear hx34
            try clear p2
            try clear p31
            try clear p34
            try clear p6
            try clear q31
            try clear q34
            try clear q6
            obtain ⟨kq, x76_22, rfl, HA, HJ22, HO_8, HB⟩ := hcut
            cases kq with
            | zero => exact absurd HA.out (by simp [spec_l13Read.j1])
            | succ kj22 =>
             have H := HA.out
             clear HA
             simp only [spec_l13Read.j1] at H
             by_cases c36 : x76_22 = true
             ·subst c36
              have H1 : (some (([] : List (S84)), (wrap64 (a1 + 1)))) = some (r1, r2) := by rw [if_pos rfl] at H; exact H
              clear H
              have H := H1
              clear H1
              simp only [Option.some.injEq, Prod.mk.injEq] at H
              obtain ⟨rfl, rfl⟩ := H
              go_wp2
              go_ret2
              exact ⟨_, eW, by first | exact Kd.R_nil _ _ _ _ _ | exact Kd.N_nil _ _ _ _ _ | exact Kd.V_nil _ _ _ _ _ | exact Kd.Q_nil _ _ _ _ _ | exact Kd.S_nil _ _ _ _ _, bW⟩
             ·replace c36 := Bool.eq_false_iff.mpr c36
              subst c36
              have H1 : (if 0 ≤ t786 then (if t786 < (a0.size : Int) then (if (bt a0 t786) = 46 then ((spec_l13Read.f kj22 a0 (wrap64 (t786 + 1))).bind fun bt789 => (if (bt789.1.length : Int) = 0 then (some (([] : List (S84)), (wrap64 (a1 + 1)))) else (if bt789.2 ≥ (a0.size : Int) then (some (([] : List (S84)), (wrap64 (a1 + 1)))) else (if 0 ≤ bt789.2 then (if bt789.2 < (a0.size : Int) then (if (bt a0 bt789.2) = 41 then ((some (([(⟨4, 0⟩ : S84)] : List (S84)) : List (S84))).bind fun y793 => (if y793.length + t785.length < 8796093022208 then ((some (y793 ++ t785 : List (S84))).bind fun y796 => (if y796.length + bt789.1.length < 8796093022208 then (spec_l13Read.j2 kj22 a0 (wrap64 (bt789.2 + 1)) (y796 ++ bt789.1)) else (none))) else (none))) else (some (([] : List (S84)), (wrap64 (a1 + 1))))) else (none)) else (none))))) else ((spec_l13Read.f kj22 a0 (wrap64 (t786 + 1))).bind fun bt802 => (if (bt802.1.length : Int) = 0 then (some (([] : List (S84)), (wrap64 (a1 + 1)))) else (if bt802.2 ≥ (a0.size : Int) then (some (([] : List (S84)), (wrap64 (a1 + 1)))) else (if 0 ≤ bt802.2 then (if bt802.2 < (a0.size : Int) then (if (bt a0 bt802.2) = 41 then ((some (([(⟨3, 0⟩ : S84)] : List (S84)) : List (S84))).bind fun y806 => (if y806.length + t785.length < 8796093022208 then ((some (y806 ++ t785 : List (S84))).bind fun y809 => (if y809.length + bt802.1.length < 8796093022208 then (spec_l13Read.j2 kj22 a0 (wrap64 (bt802.2 + 1)) (y809 ++ bt802.1)) else (none))) else (none))) else (some (([] : List (S84)), (wrap64 (a1 + 1))))) else (none)) else (none)))))) else (none)) else (none)) = some (r1, r2) := by rw [if_neg (show ¬ (false = true) by decide)] at H; exact H
              clear H
              have H := H1
              clear H1
              by_cases c37 : 0 ≤ t786
              ·rw [if_pos c37] at H
               have c37b0 : decide (0 ≤ t786) = true := decide_eq_true c37
               clear c37
               by_cases c38 : t786 < (a0.size : Int)
               ·rw [if_pos c38] at H
                have c38b0 : decide (t786 < (a0.size : Int)) = true := decide_eq_true c38
                clear c38
                by_cases c40 : (bt a0 t786) = 46
                ·rw [if_pos c40] at H
                 have c40b0 : ((bt a0 t786) == 46) = true := beq_iff_eq.mpr c40
                 have c40b1 : ((bt a0 t786) != 46) = false := bne_eq_false_iff_eq.mpr c40
                 clear c40
                 replace H := Option.bind_eq_some_iff.mp H
                 obtain ⟨⟨t789, t790⟩, A410, H⟩ := H
                 replace H : (if (t789.length : Int) = 0 then (some (([] : List (S84)), (wrap64 (a1 + 1)))) else (if t790 ≥ (a0.size : Int) then (some (([] : List (S84)), (wrap64 (a1 + 1)))) else (if 0 ≤ t790 then (if t790 < (a0.size : Int) then (if (bt a0 t790) = 41 then ((some (([(⟨4, 0⟩ : S84)] : List (S84)) : List (S84))).bind fun y793 => (if y793.length + t785.length < 8796093022208 then ((some (y793 ++ t785 : List (S84))).bind fun y796 => (if y796.length + t789.length < 8796093022208 then (spec_l13Read.j2 kj22 a0 (wrap64 (t790 + 1)) (y796 ++ t789)) else (none))) else (none))) else (some (([] : List (S84)), (wrap64 (a1 + 1))))) else (none)) else (none)))) = some (r1, r2) := H
                 have A41 := Aside0.mk A410
                 clear A410
                 by_cases c42 : (t789.length : Int) = 0
                 ·rw [if_pos c42] at H
                  have c42b0 : ((t789.length : Int) == 0) = true := beq_iff_eq.mpr c42
                  have c42b1 : ((t789.length : Int) != 0) = false := bne_eq_false_iff_eq.mpr c42
                  clear c42
                  simp only [Option.some.injEq, Prod.mk.injEq] at H
                  obtain ⟨rfl, rfl⟩ := H
                  have p39 : 0 ≤ (t786 : Int) := ofD
                  have q39 : t786 < (a0.size : Int) := ofD
                  have hx39 := bt_at a0 t786
                  replace p39 := eq_true p39
                  replace q39 := eq_true q39
                  go_wp2_with (first | ((with_reducible refine gate_callee (f := 86) rfl ?_); refine goesS (some 86) Tryd.func86 #[.string a0, .int .i64 (wrap64 (t786 + 1))] ?_; (with_reducible refine (ih kj22 (by have := HJ15.out; have := HJ22.out; omega) a0 (wrap64 (t786 + 1)) t789 t790 _ A41.out).mono ?_); rintro e w43 ⟨v791, rfl, ho0, hb⟩; refine ⟨_, rfl, ?_⟩; have n0_ := Aside0.mk (Kd.R_elder' (rP HO_8.out) (Kd.R_base ho0) hb); have n1_ := Aside0.mk (Kd.R_lower (Kd.R_new' ho0 (Kd.R_lt (rP HO_8.out))) (below_size (bW))); have n2_ := Aside0.mk (below_step (bW) hb); clear HO_8; clear HB; have HO_8 := n0_; have HO792 := n1_; have HB := n2_; clear n0_ n1_ n2_; (try clear hb); (try clear hb2); (try clear hk); (try clear hi); (try clear ho0); obtain ⟨Ao44, co44, eo44⟩ := Kd.R_slice HO792.out; subst eo44))
                  go_ret2
                  exact ⟨_, eW, by first | exact Kd.R_nil _ _ _ _ _ | exact Kd.N_nil _ _ _ _ _ | exact Kd.V_nil _ _ _ _ _ | exact Kd.Q_nil _ _ _ _ _ | exact Kd.S_nil _ _ _ _ _, bW⟩
                 ·rw [if_neg c42] at H
                  have c42b0 : ((t789.length : Int) == 0) = false := beq_eq_false_iff_ne.mpr c42
                  have c42b1 : ((t789.length : Int) != 0) = true := bne_iff_ne.mpr c42
                  have c42b2 : ¬ (t789 = []) := fun h_ => c42 (by rw [h_]; rfl)
                  by_cases c45 : t790 ≥ (a0.size : Int)
                  ·rw [if_pos c45] at H
                   have c45b0 : decide ((a0.size : Int) ≤ t790) = true := decide_eq_true c45
                   clear c45
                   simp only [Option.some.injEq, Prod.mk.injEq] at H
                   obtain ⟨rfl, rfl⟩ := H
                   have p39 : 0 ≤ (t786 : Int) := ofD
                   have q39 : t786 < (a0.size : Int) := ofD
                   have hx39 := bt_at a0 t786
                   replace p39 := eq_true p39
                   replace q39 := eq_true q39
                   go_wp2_with (first | ((with_reducible refine gate_callee (f := 86) rfl ?_); refine goesS (some 86) Tryd.func86 #[.string a0, .int .i64 (wrap64 (t786 + 1))] ?_; (with_reducible refine (ih kj22 (by have := HJ15.out; have := HJ22.out; omega) a0 (wrap64 (t786 + 1)) t789 t790 _ A41.out).mono ?_); rintro e w46 ⟨v791, rfl, ho0, hb⟩; refine ⟨_, rfl, ?_⟩; have n0_ := Aside0.mk (Kd.R_elder' (rP HO_8.out) (Kd.R_base ho0) hb); have n1_ := Aside0.mk (Kd.R_lower (Kd.R_new' ho0 (Kd.R_lt (rP HO_8.out))) (below_size (bW))); have n2_ := Aside0.mk (below_step (bW) hb); clear HO_8; clear HB; have HO_8 := n0_; have HO792 := n1_; have HB := n2_; clear n0_ n1_ n2_; (try clear hb); (try clear hb2); (try clear hk); (try clear hi); (try clear ho0); obtain ⟨Ao47, co47, eo47⟩ := Kd.R_slice HO792.out; subst eo47))
                   go_ret2
                   exact ⟨_, eW, by first | exact Kd.R_nil _ _ _ _ _ | exact Kd.N_nil _ _ _ _ _ | exact Kd.V_nil _ _ _ _ _ | exact Kd.Q_nil _ _ _ _ _ | exact Kd.S_nil _ _ _ _ _, bW⟩
                  ·rw [if_neg c45] at H
                   have c45b0 : decide ((a0.size : Int) ≤ t790) = false := decide_eq_false c45
                   clear c45
                   by_cases c48 : 0 ≤ t790
                   ·rw [if_pos c48] at H
                    have c48b0 : decide (0 ≤ t790) = true := decide_eq_true c48
                    clear c48
                    by_cases c49 : t790 < (a0.size : Int)
                    ·rw [if_pos c49] at H
                     have c49b0 : decide (t790 < (a0.size : Int)) = true := decide_eq_true c49
                     clear c49
                     by_cases c51 : (bt a0 t790) = 41
                     ·rw [if_pos c51] at H
                      have c51b0 : ((bt a0 t790) == 41) = true := beq_iff_eq.mpr c51
                      have c51b1 : ((bt a0 t790) != 41) = false := bne_eq_false_iff_eq.mpr c51
                      clear c51
                      obtain ⟨y793, hy793⟩ : ∃ y_ : List (S84), y_ = (([(⟨4, 0⟩ : S84)] : List (S84))) := ⟨_, rfl⟩
                      replace H : (if y793.length + t785.length < 8796093022208 then ((some (y793 ++ t785 : List (S84))).bind fun y796 => (if y796.length + t789.length < 8796093022208 then (spec_l13Read.j2 kj22 a0 (wrap64 (t790 + 1)) (y796 ++ t789)) else (none))) else (none)) = some (r1, r2) := by first | (rw [hy793]; with_reducible exact H) | (have H2_ := (Option.bind_some _ _).symm.trans H; rw [hy793]; with_reducible exact H2_) | (have H2_ := (Option.bind_some _ _).symm.trans H; with_reducible exact H2_) | with_reducible exact H | (rw [hy793]; exact H) | exact H
                      have Ny793 := Aside0.mk hy793
                      clear hy793
                      by_cases c52 : y793.length + t785.length < 8796093022208
                      ·rw [if_pos c52] at H
                       have LMc52 := Aside0.mk c52
                       clear c52
                       obtain ⟨y796, hy796⟩ : ∃ y_ : List (S84), y_ = (y793 ++ t785) := ⟨_, rfl⟩
                       replace H : (if y796.length + t789.length < 8796093022208 then (spec_l13Read.j2 kj22 a0 (wrap64 (t790 + 1)) (y796 ++ t789)) else (none)) = some (r1, r2) := by first | (rw [hy796]; with_reducible exact H) | (have H2_ := (Option.bind_some _ _).symm.trans H; rw [hy796]; with_reducible exact H2_) | (have H2_ := (Option.bind_some _ _).symm.trans H; with_reducible exact H2_) | with_reducible exact H | (rw [hy796]; exact H) | exact H
                       have Ny796 := Aside0.mk hy796
                       clear hy796
                       by_cases c53 : y796.length + t789.length < 8796093022208
                       ·rw [if_pos c53] at H
                        have LMc53 := Aside0.mk c53
                        clear c53
                        obtain ⟨y799, hy799⟩ : ∃ y_ : List (S84), y_ = (y796 ++ t789) := ⟨_, rfl⟩
                        replace H : (spec_l13Read.j2 kj22 a0 (wrap64 (t790 + 1)) y799) = some (r1, r2) := by first | (rw [hy799]; with_reducible exact H) | (have H2_ := (Option.bind_some _ _).symm.trans H; rw [hy799]; with_reducible exact H2_) | (have H2_ := (Option.bind_some _ _).symm.trans H; with_reducible exact H2_) | with_reducible exact H | (rw [hy799]; exact H) | exact H
                        have Ny799 := Aside0.mk hy799
                        clear hy799
                        have H' := Aside0.mk H
                        clear H
                        have p39 : 0 ≤ (t786 : Int) := ofD
                        have q39 : t786 < (a0.size : Int) := ofD
                        have hx39 := bt_at a0 t786
                        replace p39 := eq_true p39
                        replace q39 := eq_true q39
                        go_wp2_with (first | ((with_reducible refine gate_callee (f := 86) rfl ?_); refine goesS (some 86) Tryd.func86 #[.string a0, .int .i64 (wrap64 (t786 + 1))] ?_; (with_reducible refine (ih kj22 (by have := HJ15.out; have := HJ22.out; omega) a0 (wrap64 (t786 + 1)) t789 t790 _ A41.out).mono ?_); rintro e w54 ⟨v791, rfl, ho0, hb⟩; refine ⟨_, rfl, ?_⟩; have n0_ := Aside0.mk (Kd.R_elder' (rP HO_8.out) (Kd.R_base ho0) hb); have n1_ := Aside0.mk (Kd.R_lower (Kd.R_new' ho0 (Kd.R_lt (rP HO_8.out))) (below_size (bW))); have n2_ := Aside0.mk (below_step (bW) hb); clear HO_8; clear HB; have HO_8 := n0_; have HO792 := n1_; have HB := n2_; clear n0_ n1_ n2_; (try clear hb); (try clear hb2); (try clear hk); (try clear hi); (try clear ho0); obtain ⟨Ao55, co55, eo55⟩ := Kd.R_slice HO792.out; subst eo55; have p50 : 0 ≤ (t790 : Int) := ofD; have q50 : t790 < (a0.size : Int) := ofD; have hx50 := bt_at a0 t790; replace p50 := eq_true p50; replace q50 := eq_true q50) | ((with_reducible refine gate_dst (N := 107) rfl ?_); (try (refine gate_guard (by rfl) ?_; dsimp only)); refine Kd.R_lit k84 _ 84 ?hg (N := 107) ?hd (xs := ([(⟨4, 0⟩ : S84)] : List (S84))) (inner := [.int .i64 4, .int .i64 0]) (ok := fun _ => True) (okp := fun _ => True) ?hr ?hp (fun _ hk => hk) trivial (Below.refl _ _) (Nat.le_refl _) (by simp) ?_; (case hd => rfl); (case hg => rfl); (case hr => first | (go_simp; done) | (go_simp; rfl)); (case hp => exact (Reps.c2 (show Kd.M k84 _ _ _ (⟨4, 0⟩ : S84) [.int .i64 4, .int .i64 0] from (k84_mkM _ _ _ (⟨4, 0⟩ : S84) )) (Reps.none _ _))); intro v794 w56 ho57 hb hg_ hnew_; clear hg_ hnew_; (first | rw [← Ny793.out] at ho57 | (simp only [Int.reduceToNat] at ho57; rw [← Ny793.out] at ho57)); have n0_ := Aside0.mk (Kd.R_elder' (rP HO_8.out) (Kd.R_base ho57) hb); have n1_ := Aside0.mk (Kd.R_elder' (rP HO792.out) (Kd.R_base ho57) hb); have n2_ := Aside0.mk (Kd.R_lower (Kd.R_new' (Kd.R_new' ho57 (Kd.R_lt (rP HO_8.out))) (Kd.R_lt (rP HO792.out))) (below_size (bW))); have n3_ := Aside0.mk (below_step (bW) hb); clear HO_8; clear HO792; clear HB; have HO_8 := n0_; have HO792 := n1_; have HO795 := n2_; have HB := n3_; clear n0_ n1_ n2_ n3_; clear hb ho57; obtain ⟨Ao59, co59, eo59⟩ := Kd.R_slice HO_8.out; subst eo59) | ((with_reducible refine gate_builtin (b := .append) (xs := #[.tmp 107, .tmp 108]) rfl ?_); (try (refine gate_guard (by rfl) ?_; dsimp only)); at_builtin; refine Kd.R_append_rows k84 (w0 := w) w.heap.size rfl (.tmp 107) (.tmp 108) 39 84 (.agg #[(.int .i64 0), (.int .i64 0)]) 16 rfl Tryd.underlying39 info84 rfl (by decide) (by omega) v794 y793 t785 _ _ _ (fun k_ => some k_ ≠ (.slice Ao59 t785.length co59 : Value).ownBlock ∧ some k_ ≠ (.slice Ao55 t789.length co55 : Value).ownBlock) (fun _ => False) rfl rfl ?aO ?aR (fun _ _ h => h) (fun _ h => h.elim) ?aF ?aB ?aS ?aL ?_; (case aR => exact cP ((Kd.R_reads' HO_8.out).2.2)); (case aB => exact (bW)); (case aF => exact (fun k_ hk => ⟨Kd.fresh' (Kd.R_lt (rP HO_8.out)) k_ hk, Kd.fresh' (Kd.R_lt (rP HO792.out)) k_ hk⟩)); (case aO => exact (by (with_reducible repeat (first | apply Kd.R_alloc | apply Kd.R_drewN | apply Kd.R_drew)); exact Kd.R_mono HO795.out (fun _ hk => ⟨hk.1.2, hk.2⟩))); (case aS => exact (below_size (bW))); (case aL => have := LMc52.out; omega); intro v797 w58 ho hb hg hat; rw [← Ny796.out] at ho; have n0_ := Aside0.mk (Kd.R_after (ok := (fun k_ => some k_ ≠ (.slice Ao55 t789.length co55 : Value).ownBlock)) (by (with_reducible repeat (first | apply Kd.R_alloc | apply Kd.R_drewN | apply Kd.R_drew)); exact Kd.R_mono HO_8.out (fun _ hk => ⟨hk.1.2, hk.2⟩)) hg hat); have n1_ := Aside0.mk (Kd.R_after (ok := (fun k_ => some k_ ≠ (.slice Ao59 t785.length co59 : Value).ownBlock)) (by (with_reducible repeat (first | apply Kd.R_alloc | apply Kd.R_drewN | apply Kd.R_drew)); exact Kd.R_mono HO792.out (fun _ hk => ⟨hk.1.2, hk.2⟩)) hg hat); have n2_ := Aside0.mk (hb); have n3_ := Aside0.mk (ho); clear HO_8; clear HO792; clear HB; clear HO795; have HO_8 := n0_; have HO792 := n1_; have HB := n2_; have HO798 := n3_; clear n0_ n1_ n2_ n3_; clear ho hb hg hat) | ((with_reducible refine gate_builtin (b := .append) (xs := #[.tmp 109, .tmp 110]) rfl ?_); (try (refine gate_guard (by rfl) ?_; dsimp only)); at_builtin; refine Kd.R_append_rows k84 (w0 := w) w.heap.size rfl (.tmp 109) (.tmp 110) 39 84 (.agg #[(.int .i64 0), (.int .i64 0)]) 16 rfl Tryd.underlying39 info84 rfl (by decide) (by omega) v797 y796 t789 _ _ _ (fun k_ => some k_ ≠ (.slice Ao59 t785.length co59 : Value).ownBlock ∧ some k_ ≠ (.slice Ao55 t789.length co55 : Value).ownBlock) (fun _ => False) rfl rfl ?aO ?aR (fun _ _ h => h) (fun _ h => h.elim) ?aF ?aB ?aS ?aL ?_; (case aR => exact cP ((Kd.R_reads' HO792.out).2.2)); (case aB => exact (bW)); (case aF => exact (fun k_ hk => ⟨Kd.fresh' (Kd.R_lt (rP HO_8.out)) k_ hk, Kd.fresh' (Kd.R_lt (rP HO792.out)) k_ hk⟩)); (case aO => exact (rP HO798.out)); (case aS => exact (below_size (bW))); (case aL => have := LMc53.out; omega); intro v800 w60 ho hb hg hat; rw [← Ny799.out] at ho; have n0_ := Aside0.mk (Kd.R_after (ok := (fun k_ => some k_ ≠ (.slice Ao55 t789.length co55 : Value).ownBlock)) (rP HO_8.out) hg hat); have n1_ := Aside0.mk (Kd.R_after (ok := (fun k_ => some k_ ≠ (.slice Ao59 t785.length co59 : Value).ownBlock)) (rP HO792.out) hg hat); have n2_ := Aside0.mk (hb); have n3_ := Aside0.mk (ho); clear HO_8; clear HO792; clear HB; clear HO798; have HO_8 := n0_; have HO792 := n1_; have HB := n2_; have HO801 := n3_; clear n0_ n1_ n2_ n3_; clear ho hb hg hat))
                        go_meet
                        case rel => exact ⟨_, (wrap64 (t790 + 1)), (y799), (eW), H', ⟨by have := HJ15.out; have := HJ22.out; first | omega | exact Nat.le_refl _⟩, ⟨by (with_reducible repeat (first | apply Kd.R_alloc | apply Kd.R_drewN | apply Kd.R_drew)); exact Kd.R_mono HO801.out (fun _ hk => trivial)⟩, ⟨bW⟩⟩
                       ·rw [if_neg c53] at H
                        exact absurd H (by simp)
                      ·rw [if_neg c52] at H
                       exact absurd H (by simp)
                     ·rw [if_neg c51] at H
                      have c51b0 : ((bt a0 t790) == 41) = false := beq_eq_false_iff_ne.mpr c51
                      have c51b1 : ((bt a0 t790) != 41) = true := bne_iff_ne.mpr c51
                      simp only [Option.some.injEq, Prod.mk.injEq] at H
                      obtain ⟨rfl, rfl⟩ := H
                      have p39 : 0 ≤ (t786 : Int) := ofD
                      have q39 : t786 < (a0.size : Int) := ofD
                      have hx39 := bt_at a0 t786
                      replace p39 := eq_true p39
                      replace q39 := eq_true q39
                      go_wp2_with (first | ((with_reducible refine gate_callee (f := 86) rfl ?_); refine goesS (some 86) Tryd.func86 #[.string a0, .int .i64 (wrap64 (t786 + 1))] ?_; (with_reducible refine (ih kj22 (by have := HJ15.out; have := HJ22.out; omega) a0 (wrap64 (t786 + 1)) t789 t790 _ A41.out).mono ?_); rintro e w61 ⟨v791, rfl, ho0, hb⟩; refine ⟨_, rfl, ?_⟩; have n0_ := Aside0.mk (Kd.R_elder' (rP HO_8.out) (Kd.R_base ho0) hb); have n1_ := Aside0.mk (Kd.R_lower (Kd.R_new' ho0 (Kd.R_lt (rP HO_8.out))) (below_size (bW))); have n2_ := Aside0.mk (below_step (bW) hb); clear HO_8; clear HB; have HO_8 := n0_; have HO792 := n1_; have HB := n2_; clear n0_ n1_ n2_; (try clear hb); (try clear hb2); (try clear hk); (try clear hi); (try clear ho0); obtain ⟨Ao62, co62, eo62⟩ := Kd.R_slice HO792.out; subst eo62; have p50 : 0 ≤ (t790 : Int) := ofD; have q50 : t790 < (a0.size : Int) := ofD; have hx50 := bt_at a0 t790; replace p50 := eq_true p50; replace q50 := eq_true q50))
                      go_ret2
                      exact ⟨_, eW, by first | exact Kd.R_nil _ _ _ _ _ | exact Kd.N_nil _ _ _ _ _ | exact Kd.V_nil _ _ _ _ _ | exact Kd.Q_nil _ _ _ _ _ | exact Kd.S_nil _ _ _ _ _, bW⟩
                    ·rw [if_neg c49] at H
                     exact absurd H (by simp)
                   ·rw [if_neg c48] at H
                    exact absurd H (by simp)
                ·rw [if_neg c40] at H
                 have c40b0 : ((bt a0 t786) == 46) = false := beq_eq_false_iff_ne.mpr c40
                 have c40b1 : ((bt a0 t786) != 46) = true := bne_iff_ne.mpr c40
                 replace H := Option.bind_eq_some_iff.mp H
                 obtain ⟨⟨t802, t803⟩, A630, H⟩ := H
                 replace H : (if (t802.length : Int) = 0 then (some (([] : List (S84)), (wrap64 (a1 + 1)))) else (if t803 ≥ (a0.size : Int) then (some (([] : List (S84)), (wrap64 (a1 + 1)))) else (if 0 ≤ t803 then (if t803 < (a0.size : Int) then (if (bt a0 t803) = 41 then ((some (([(⟨3, 0⟩ : S84)] : List (S84)) : List (S84))).bind fun y806 => (if y806.length + t785.length < 8796093022208 then ((some (y806 ++ t785 : List (S84))).bind fun y809 => (if y809.length + t802.length < 8796093022208 then (spec_l13Read.j2 kj22 a0 (wrap64 (t803 + 1)) (y809 ++ t802)) else (none))) else (none))) else (some (([] : List (S84)), (wrap64 (a1 + 1))))) else (none)) else (none)))) = some (r1, r2) := H
                 have A63 := Aside0.mk A630
                 clear A630
                 by_cases c64 : (t802.length : Int) = 0
                 ·rw [if_pos c64] at H
                  have c64b0 : ((t802.length : Int) == 0) = true := beq_iff_eq.mpr c64
                  have c64b1 : ((t802.length : Int) != 0) = false := bne_eq_false_iff_eq.mpr c64
                  clear c64
                  simp only [Option.some.injEq, Prod.mk.injEq] at H
                  obtain ⟨rfl, rfl⟩ := H
                  have p39 : 0 ≤ (t786 : Int) := ofD
                  have q39 : t786 < (a0.size : Int) := ofD
                  have hx39 := bt_at a0 t786
                  replace p39 := eq_true p39
                  replace q39 := eq_true q39
                  go_wp2_with (first | ((with_reducible refine gate_callee (f := 86) rfl ?_); refine goesS (some 86) Tryd.func86 #[.string a0, .int .i64 (wrap64 (t786 + 1))] ?_; (with_reducible refine (ih kj22 (by have := HJ15.out; have := HJ22.out; omega) a0 (wrap64 (t786 + 1)) t802 t803 _ A63.out).mono ?_); rintro e w65 ⟨v804, rfl, ho0, hb⟩; refine ⟨_, rfl, ?_⟩; have n0_ := Aside0.mk (Kd.R_elder' (rP HO_8.out) (Kd.R_base ho0) hb); have n1_ := Aside0.mk (Kd.R_lower (Kd.R_new' ho0 (Kd.R_lt (rP HO_8.out))) (below_size (bW))); have n2_ := Aside0.mk (below_step (bW) hb); clear HO_8; clear HB; have HO_8 := n0_; have HO805 := n1_; have HB := n2_; clear n0_ n1_ n2_; (try clear hb); (try clear hb2); (try clear hk); (try clear hi); (try clear ho0); obtain ⟨Ao66, co66, eo66⟩ := Kd.R_slice HO805.out; subst eo66))
                  go_ret2
                  exact ⟨_, eW, by first | exact Kd.R_nil _ _ _ _ _ | exact Kd.N_nil _ _ _ _ _ | exact Kd.V_nil _ _ _ _ _ | exact Kd.Q_nil _ _ _ _ _ | exact Kd.S_nil _ _ _ _ _, bW⟩
                 ·rw [if_neg c64] at H
                  have c64b0 : ((t802.length : Int) == 0) = false := beq_eq_false_iff_ne.mpr c64
                  have c64b1 : ((t802.length : Int) != 0) = true := bne_iff_ne.mpr c64
                  have c64b2 : ¬ (t802 = []) := fun h_ => c64 (by rw [h_]; rfl)
                  by_cases c67 : t803 ≥ (a0.size : Int)
                  ·rw [if_pos c67] at H
                   have c67b0 : decide ((a0.size : Int) ≤ t803) = true := decide_eq_true c67
                   clear c67
                   simp only [Option.some.injEq, Prod.mk.injEq] at H
                   obtain ⟨rfl, rfl⟩ := H
                   have p39 : 0 ≤ (t786 : Int) := ofD
                   have q39 : t786 < (a0.size : Int) := ofD
                   have hx39 := bt_at a0 t786
                   replace p39 := eq_true p39
                   replace q39 := eq_true q39
                   go_wp2_with (first | ((with_reducible refine gate_callee (f := 86) rfl ?_); refine goesS (some 86) Tryd.func86 #[.string a0, .int .i64 (wrap64 (t786 + 1))] ?_; (with_reducible refine (ih kj22 (by have := HJ15.out; have := HJ22.out; omega) a0 (wrap64 (t786 + 1)) t802 t803 _ A63.out).mono ?_); rintro e w68 ⟨v804, rfl, ho0, hb⟩; refine ⟨_, rfl, ?_⟩; have n0_ := Aside0.mk (Kd.R_elder' (rP HO_8.out) (Kd.R_base ho0) hb); have n1_ := Aside0.mk (Kd.R_lower (Kd.R_new' ho0 (Kd.R_lt (rP HO_8.out))) (below_size (bW))); have n2_ := Aside0.mk (below_step (bW) hb); clear HO_8; clear HB; have HO_8 := n0_; have HO805 := n1_; have HB := n2_; clear n0_ n1_ n2_; (try clear hb); (try clear hb2); (try clear hk); (try clear hi); (try clear ho0); obtain ⟨Ao69, co69, eo69⟩ := Kd.R_slice HO805.out; subst eo69))
                   go_ret2
                   exact ⟨_, eW, by first | exact Kd.R_nil _ _ _ _ _ | exact Kd.N_nil _ _ _ _ _ | exact Kd.V_nil _ _ _ _ _ | exact Kd.Q_nil _ _ _ _ _ | exact Kd.S_nil _ _ _ _ _, bW⟩
                  ·rw [if_neg c67] at H
                   have c67b0 : decide ((a0.size : Int) ≤ t803) = false := decide_eq_false c67
                   clear c67
                   by_cases c70 : 0 ≤ t803
                   ·rw [if_pos c70] at H
                    have c70b0 : decide (0 ≤ t803) = true := decide_eq_true c70
                    clear c70
                    by_cases c71 : t803 < (a0.size : Int)
                    ·rw [if_pos c71] at H
                     have c71b0 : decide (t803 < (a0.size : Int)) = true := decide_eq_true c71
                     clear c71
                     by_cases c73 : (bt a0 t803) = 41
                     ·rw [if_pos c73] at H
                      have c73b0 : ((bt a0 t803) == 41) = true := beq_iff_eq.mpr c73
                      have c73b1 : ((bt a0 t803) != 41) = false := bne_eq_false_iff_eq.mpr c73
                      clear c73
                      obtain ⟨y806, hy806⟩ : ∃ y_ : List (S84), y_ = (([(⟨3, 0⟩ : S84)] : List (S84))) := ⟨_, rfl⟩
                      replace H : (if y806.length + t785.length < 8796093022208 then ((some (y806 ++ t785 : List (S84))).bind fun y809 => (if y809.length + t802.length < 8796093022208 then (spec_l13Read.j2 kj22 a0 (wrap64 (t803 + 1)) (y809 ++ t802)) else (none))) else (none)) = some (r1, r2) := by first | (rw [hy806]; with_reducible exact H) | (have H2_ := (Option.bind_some _ _).symm.trans H; rw [hy806]; with_reducible exact H2_) | (have H2_ := (Option.bind_some _ _).symm.trans H; with_reducible exact H2_) | with_reducible exact H | (rw [hy806]; exact H) | exact H
                      have Ny806 := Aside0.mk hy806
                      clear hy806
                      by_cases c74 : y806.length + t785.length < 8796093022208
                      ·rw [if_pos c74] at H
                       have LMc74 := Aside0.mk c74
                       clear c74
                       obtain ⟨y809, hy809⟩ : ∃ y_ : List (S84), y_ = (y806 ++ t785) := ⟨_, rfl⟩
                       replace H : (if y809.length + t802.length < 8796093022208 then (spec_l13Read.j2 kj22 a0 (wrap64 (t803 + 1)) (y809 ++ t802)) else (none)) = some (r1, r2) := by first | (rw [hy809]; with_reducible exact H) | (have H2_ := (Option.bind_some _ _).symm.trans H; rw [hy809]; with_reducible exact H2_) | (have H2_ := (Option.bind_some _ _).symm.trans H; with_reducible exact H2_) | with_reducible exact H | (rw [hy809]; exact H) | exact H
                       have Ny809 := Aside0.mk hy809
                       clear hy809
                       by_cases c75 : y809.length + t802.length < 8796093022208
                       ·rw [if_pos c75] at H
                        have LMc75 := Aside0.mk c75
                        clear c75
                        obtain ⟨y812, hy812⟩ : ∃ y_ : List (S84), y_ = (y809 ++ t802) := ⟨_, rfl⟩
                        replace H : (spec_l13Read.j2 kj22 a0 (wrap64 (t803 + 1)) y812) = some (r1, r2) := by first | (rw [hy812]; with_reducible exact H) | (have H2_ := (Option.bind_some _ _).symm.trans H; rw [hy812]; with_reducible exact H2_) | (have H2_ := (Option.bind_some _ _).symm.trans H; with_reducible exact H2_) | with_reducible exact H | (rw [hy812]; exact H) | exact H
                        have Ny812 := Aside0.mk hy812
                        clear hy812
                        have H' := Aside0.mk H
                        clear H
                        have p39 : 0 ≤ (t786 : Int) := ofD
                        have q39 : t786 < (a0.size : Int) := ofD
                        have hx39 := bt_at a0 t786
                        replace p39 := eq_true p39
                        replace q39 := eq_true q39
                        go_wp2_with (first | ((with_reducible refine gate_callee (f := 86) rfl ?_); refine goesS (some 86) Tryd.func86 #[.string a0, .int .i64 (wrap64 (t786 + 1))] ?_; (with_reducible refine (ih kj22 (by have := HJ15.out; have := HJ22.out; omega) a0 (wrap64 (t786 + 1)) t802 t803 _ A63.out).mono ?_); rintro e w76 ⟨v804, rfl, ho0, hb⟩; refine ⟨_, rfl, ?_⟩; have n0_ := Aside0.mk (Kd.R_elder' (rP HO_8.out) (Kd.R_base ho0) hb); have n1_ := Aside0.mk (Kd.R_lower (Kd.R_new' ho0 (Kd.R_lt (rP HO_8.out))) (below_size (bW))); have n2_ := Aside0.mk (below_step (bW) hb); clear HO_8; clear HB; have HO_8 := n0_; have HO805 := n1_; have HB := n2_; clear n0_ n1_ n2_; (try clear hb); (try clear hb2); (try clear hk); (try clear hi); (try clear ho0); obtain ⟨Ao77, co77, eo77⟩ := Kd.R_slice HO805.out; subst eo77; have p72 : 0 ≤ (t803 : Int) := ofD; have q72 : t803 < (a0.size : Int) := ofD; have hx72 := bt_at a0 t803; replace p72 := eq_true p72; replace q72 := eq_true q72) | ((with_reducible refine gate_dst (N := 107) rfl ?_); (try (refine gate_guard (by rfl) ?_; dsimp only)); refine Kd.R_lit k84 _ 84 ?hg (N := 107) ?hd (xs := ([(⟨3, 0⟩ : S84)] : List (S84))) (inner := [.int .i64 3, .int .i64 0]) (ok := fun _ => True) (okp := fun _ => True) ?hr ?hp (fun _ hk => hk) trivial (Below.refl _ _) (Nat.le_refl _) (by simp) ?_; (case hd => rfl); (case hg => rfl); (case hr => first | (go_simp; done) | (go_simp; rfl)); (case hp => exact (Reps.c2 (show Kd.M k84 _ _ _ (⟨3, 0⟩ : S84) [.int .i64 3, .int .i64 0] from (k84_mkM _ _ _ (⟨3, 0⟩ : S84) )) (Reps.none _ _))); intro v807 w78 ho79 hb hg_ hnew_; clear hg_ hnew_; (first | rw [← Ny806.out] at ho79 | (simp only [Int.reduceToNat] at ho79; rw [← Ny806.out] at ho79)); have n0_ := Aside0.mk (Kd.R_elder' (rP HO_8.out) (Kd.R_base ho79) hb); have n1_ := Aside0.mk (Kd.R_elder' (rP HO805.out) (Kd.R_base ho79) hb); have n2_ := Aside0.mk (Kd.R_lower (Kd.R_new' (Kd.R_new' ho79 (Kd.R_lt (rP HO_8.out))) (Kd.R_lt (rP HO805.out))) (below_size (bW))); have n3_ := Aside0.mk (below_step (bW) hb); clear HO_8; clear HO805; clear HB; have HO_8 := n0_; have HO805 := n1_; have HO808 := n2_; have HB := n3_; clear n0_ n1_ n2_ n3_; clear hb ho79; obtain ⟨Ao81, co81, eo81⟩ := Kd.R_slice HO_8.out; subst eo81) | ((with_reducible refine gate_builtin (b := .append) (xs := #[.tmp 107, .tmp 108]) rfl ?_); (try (refine gate_guard (by rfl) ?_; dsimp only)); at_builtin; refine Kd.R_append_rows k84 (w0 := w) w.heap.size rfl (.tmp 107) (.tmp 108) 39 84 (.agg #[(.int .i64 0), (.int .i64 0)]) 16 rfl Tryd.underlying39 info84 rfl (by decide) (by omega) v807 y806 t785 _ _ _ (fun k_ => some k_ ≠ (.slice Ao81 t785.length co81 : Value).ownBlock ∧ some k_ ≠ (.slice Ao77 t802.length co77 : Value).ownBlock) (fun _ => False) rfl rfl ?aO ?aR (fun _ _ h => h) (fun _ h => h.elim) ?aF ?aB ?aS ?aL ?_; (case aR => exact cP ((Kd.R_reads' HO_8.out).2.2)); (case aB => exact (bW)); (case aF => exact (fun k_ hk => ⟨Kd.fresh' (Kd.R_lt (rP HO_8.out)) k_ hk, Kd.fresh' (Kd.R_lt (rP HO805.out)) k_ hk⟩)); (case aO => exact (by (with_reducible repeat (first | apply Kd.R_alloc | apply Kd.R_drewN | apply Kd.R_drew)); exact Kd.R_mono HO808.out (fun _ hk => ⟨hk.1.2, hk.2⟩))); (case aS => exact (below_size (bW))); (case aL => have := LMc74.out; omega); intro v810 w80 ho hb hg hat; rw [← Ny809.out] at ho; have n0_ := Aside0.mk (Kd.R_after (ok := (fun k_ => some k_ ≠ (.slice Ao77 t802.length co77 : Value).ownBlock)) (by (with_reducible repeat (first | apply Kd.R_alloc | apply Kd.R_drewN | apply Kd.R_drew)); exact Kd.R_mono HO_8.out (fun _ hk => ⟨hk.1.2, hk.2⟩)) hg hat); have n1_ := Aside0.mk (Kd.R_after (ok := (fun k_ => some k_ ≠ (.slice Ao81 t785.length co81 : Value).ownBlock)) (by (with_reducible repeat (first | apply Kd.R_alloc | apply Kd.R_drewN | apply Kd.R_drew)); exact Kd.R_mono HO805.out (fun _ hk => ⟨hk.1.2, hk.2⟩)) hg hat); have n2_ := Aside0.mk (hb); have n3_ := Aside0.mk (ho); clear HO_8; clear HO805; clear HB; clear HO808; have HO_8 := n0_; have HO805 := n1_; have HB := n2_; have HO811 := n3_; clear n0_ n1_ n2_ n3_; clear ho hb hg hat) | ((with_reducible refine gate_builtin (b := .append) (xs := #[.tmp 109, .tmp 110]) rfl ?_); (try (refine gate_guard (by rfl) ?_; dsimp only)); at_builtin; refine Kd.R_append_rows k84 (w0 := w) w.heap.size rfl (.tmp 109) (.tmp 110) 39 84 (.agg #[(.int .i64 0), (.int .i64 0)]) 16 rfl Tryd.underlying39 info84 rfl (by decide) (by omega) v810 y809 t802 _ _ _ (fun k_ => some k_ ≠ (.slice Ao81 t785.length co81 : Value).ownBlock ∧ some k_ ≠ (.slice Ao77 t802.length co77 : Value).ownBlock) (fun _ => False) rfl rfl ?aO ?aR (fun _ _ h => h) (fun _ h => h.elim) ?aF ?aB ?aS ?aL ?_; (case aR => exact cP ((Kd.R_reads' HO805.out).2.2)); (case aB => exact (bW)); (case aF => exact (fun k_ hk => ⟨Kd.fresh' (Kd.R_lt (rP HO_8.out)) k_ hk, Kd.fresh' (Kd.R_lt (rP HO805.out)) k_ hk⟩)); (case aO => exact (rP HO811.out)); (case aS => exact (below_size (bW))); (case aL => have := LMc75.out; omega); intro v813 w82 ho hb hg hat; rw [← Ny812.out] at ho; have n0_ := Aside0.mk (Kd.R_after (ok := (fun k_ => some k_ ≠ (.slice Ao77 t802.length co77 : Value).ownBlock)) (rP HO_8.out) hg hat); have n1_ := Aside0.mk (Kd.R_after (ok := (fun k_ => some k_ ≠ (.slice Ao81 t785.length co81 : Value).ownBlock)) (rP HO805.out) hg hat); have n2_ := Aside0.mk (hb); have n3_ := Aside0.mk (ho); clear HO_8; clear HO805; clear HB; clear HO811; have HO_8 := n0_; have HO805 := n1_; have HB := n2_; have HO814 := n3_; clear n0_ n1_ n2_ n3_; clear ho hb hg hat))
                        go_meet
                        case rel => exact ⟨_, (wrap64 (t803 + 1)), (y812), (eW), H', ⟨by have := HJ15.out; have := HJ22.out; first | omega | exact Nat.le_refl _⟩, ⟨by (with_reducible repeat (first | apply Kd.R_alloc | apply Kd.R_drewN | apply Kd.R_drew)); exact Kd.R_mono HO814.out (fun _ hk => trivial)⟩, ⟨bW⟩⟩
                       ·rw [if_neg c75] at H
                        exact absurd H (by simp)
                      ·rw [if_neg c74] at H
                       exact absurd H (by simp)
                     ·rw [if_neg c73] at H
                      have c73b0 : ((bt a0 t803) == 41) = false := beq_eq_false_iff_ne.mpr c73
                      have c73b1 : ((bt a0 t803) != 41) = true := bne_iff_ne.mpr c73
                      simp only [Option.some.injEq, Prod.mk.injEq] at H
                      obtain ⟨rfl, rfl⟩ := H
                      have p39 : 0 ≤ (t786 : Int) := ofD
                      have q39 : t786 < (a0.size : Int) := ofD
                      have hx39 := bt_at a0 t786
                      replace p39 := eq_true p39
                      replace q39 := eq_true q39
                      go_wp2_with (first | ((with_reducible refine gate_callee (f := 86) rfl ?_); refine goesS (some 86) Tryd.func86 #[.string a0, .int .i64 (wrap64 (t786 + 1))] ?_; (with_reducible refine (ih kj22 (by have := HJ15.out; have := HJ22.out; omega) a0 (wrap64 (t786 + 1)) t802 t803 _ A63.out).mono ?_); rintro e w83 ⟨v804, rfl, ho0, hb⟩; refine ⟨_, rfl, ?_⟩; have n0_ := Aside0.mk (Kd.R_elder' (rP HO_8.out) (Kd.R_base ho0) hb); have n1_ := Aside0.mk (Kd.R_lower (Kd.R_new' ho0 (Kd.R_lt (rP HO_8.out))) (below_size (bW))); have n2_ := Aside0.mk (below_step (bW) hb); clear HO_8; clear HB; have HO_8 := n0_; have HO805 := n1_; have HB := n2_; clear n0_ n1_ n2_; (try clear hb); (try clear hb2); (try clear hk); (try clear hi); (try clear ho0); obtain ⟨Ao84, co84, eo84⟩ := Kd.R_slice HO805.out; subst eo84; have p72 : 0 ≤ (t803 : Int) := ofD; have q72 : t803 < (a0.size : Int) := ofD; have hx72 := bt_at a0 t803; replace p72 := eq_true p72; replace q72 := eq_true q72))
                      go_ret2
                      exact ⟨_, eW, by first | exact Kd.R_nil _ _ _ _ _ | exact Kd.N_nil _ _ _ _ _ | exact Kd.V_nil _ _ _ _ _ | exact Kd.Q_nil _ _ _ _ _ | exact Kd.S_nil _ _ _ _ _, bW⟩
                    ·rw [if_neg c71] at H
                     exact absurd H (by simp)
                   ·rw [if_neg c70] at H
                    exact absurd H (by simp)
               ·rw [if_neg c38] at H
                exact absurd H (by simp)
              ·rw [if_neg c37] at H
               exact absurd H (by simp)
          ·rw [if_neg c21] at H
           have c21b0 : ((bt a0 a1) == 40) = false := beq_eq_false_iff_ne.mpr c21
           have c21b1 : ((bt a0 a1) != 40) = true := bne_iff_ne.mpr c21
           simp only [Option.some.injEq, Prod.mk.injEq] at H
           obtain ⟨rfl, rfl⟩ := H
           go_wp2
           go_ret2
           exact ⟨_, eW, by first | exact Kd.R_nil _ _ _ _ _ | exact Kd.N_nil _ _ _ _ _ | exact Kd.V_nil _ _ _ _ _ | exact Kd.Q_nil _ _ _ _ _ | exact Kd.S_nil _ _ _ _ _, bW⟩
    case rest =>
     clear HC7
     try clear c1
     try clear c2
     try clear p2
     try clear c3
     try clear c3b0
     try clear p3
     try clear q3
     try clear hx3
     try clear c4
     try clear c4b0
     try clear c5
     try clear c5b0
     try clear p5
     try clear q5
     try clear hx5
     try clear c6
     try clear p6
     try clear q6
     try clear hx6
     try clear c7
     try clear p7
     try clear q7
     try clear hx7
     try clear c8
     try clear c10
     try clear c10b0
     try clear c10b1
     try clear c13
     try clear c13b0
     try clear c13b1
     try clear c17
     try clear c17b0
     try clear c18
     try clear c21
     try clear c21b0
     try clear c21b1
     try clear c25
     try clear c25b0
     try clear c25b1
     try clear c25b2
     try clear c27
     try clear c27b0
     try clear c29
     try clear c29b0
     try clear c30
     try clear c30b0
     try clear p31
     try clear q31
     try clear hx31
     try clear c32
     try clear c32b0
     try clear c32b1
     try clear p34
     try clear q34
     try clear hx34
     try clear c36
     try clear c37
     try clear c37b0
     try clear c38
     try clear c38b0
     try clear p39
     try clear q39
     try clear hx39
     try clear c40
     try clear c40b0
     try clear c40b1
     try clear c42
     try clear c42b0
     try clear c42b1
     try clear c42b2
     try clear c45
     try clear c45b0
     try clear c48
     try clear c48b0
     try clear c49
     try clear c49b0
     try clear p50
     try clear q50
     try clear hx50
     try clear c51
     try clear c51b0
     try clear c51b1
     try clear c52
     try clear c53
     try clear c64
     try clear c64b0
     try clear c64b1
     try clear c64b2
     try clear p64
     try clear c67
     try clear c67b0
     try clear c70
     try clear c70b0
     try clear c71
     try clear c71b0
     try clear p72
     try clear q72
     try clear hx72
     try clear c73
     try clear c73b0
     try clear c73b1
     try clear c74
     try clear c75
     try clear p2
     try clear p3
     try clear p31
     try clear p34
     try clear p39
     try clear p50
     try clear p6
     try clear p72
     try clear q3
     try clear q31
     try clear q34
     try clear q39
     try clear q50
     try clear q6
     try clear q72
     obtain ⟨kq, x1_6, x6_6, rfl, HA, HJ6, HO_6, HB⟩ := hcut
     cases kq with
     | zero => exact absurd HA.out (by simp [spec_l13Read.j2])
     | succ kj6 =>
      have H := HA.out
      clear HA
      simp only [spec_l13Read.j2] at H
      have H' := Aside0.mk H
      clear H
      go_wp2
      go_loopg [1, 6] kj6 (fun kq v1 v6 w' => ∃ (x1_2 : Int) (x6_2 : List (S84)), v1 = .int .i64 x1_2 ∧ Aside0 (spec_l13Read.l0 kq a0 x1_2 x6_2 = some (r1, r2)) ∧ Aside0 (kq ≤ kj6) ∧ Aside0 (Kd.R k84 84 w' w.heap.size (fun _ => True) v6 x6_2) ∧ Aside0 (Below w.heap.size w w'))
      case atStart => exact ⟨(x1_6), (x6_6), (eW), H', ⟨Nat.le_refl _⟩, ⟨(rP HO_6.out)⟩, ⟨bW⟩⟩
      case round =>
       clear H'
       try clear c1
       try clear c2
       try clear p2
       try clear c3
       try clear c3b0
       try clear p3
       try clear q3
       try clear hx3
       try clear c4
       try clear c4b0
       try clear c5
       try clear c5b0
       try clear p5
       try clear q5
       try clear hx5
       try clear c6
       try clear p6
       try clear q6
       try clear hx6
       try clear c7
       try clear p7
       try clear q7
       try clear hx7
       try clear c8
       try clear c10
       try clear c10b0
       try clear c10b1
       try clear c13
       try clear c13b0
       try clear c13b1
       try clear c17
       try clear c17b0
       try clear c18
       try clear c21
       try clear c21b0
       try clear c21b1
       try clear c25
       try clear c25b0
       try clear c25b1
       try clear c25b2
       try clear c27
       try clear c27b0
       try clear c29
       try clear c29b0
       try clear c30
       try clear c30b0
       try clear p31
       try clear q31
       try clear hx31
       try clear c32
       try clear c32b0
       try clear c32b1
       try clear p34
       try clear q34
       try clear hx34
       try clear c36
       try clear c37
       try clear c37b0
       try clear c38
       try clear c38b0
       try clear p39
       try clear q39
       try clear hx39
       try clear c40
       try clear c40b0
       try clear c40b1
       try clear c42
       try clear c42b0
       try clear c42b1
       try clear c42b2
       try clear c45
       try clear c45b0
       try clear c48
       try clear c48b0
       try clear c49
       try clear c49b0
       try clear p50
       try clear q50
       try clear hx50
       try clear c51
       try clear c51b0
       try clear c51b1
       try clear c52
       try clear c53
       try clear c64
       try clear c64b0
       try clear c64b1
       try clear c64b2
       try clear p64
       try clear c67
       try clear c67b0
       try clear c70
       try clear c70b0
       try clear c71
       try clear c71b0
       try clear p72
       try clear q72
       try clear hx72
       try clear c73
       try clear c73b0
       try clear c73b1
       try clear c74
       try clear c75
       try clear p2
       try clear p3
       try clear p31
       try clear p34
       try clear p39
       try clear p5
       try clear p50
       try clear p6
       try clear p64
       try clear p7
       try clear p72
       try clear q3
       try clear q31
       try clear q34
       try clear q39
       try clear q5
       try clear q50
       try clear q6
       try clear q7
       try clear q72
       obtain ⟨x1_2, x6_2, rfl, HA, HK2, HO_6, HB⟩ := hrel
       cases gk with
       | zero => exact absurd HA.out (by simp [spec_l13Read.l0])
       | succ k2 =>
        have H := HA.out
        clear HA
        simp only [spec_l13Read.l0] at H
        by_cases c85 : x1_2 < (a0.size : Int)
        ·rw [if_pos c85] at H
         have c85b0 : decide (x1_2 < (a0.size : Int)) = true := decide_eq_true c85
         clear c85
         by_cases c86 : 0 ≤ x1_2
         ·rw [if_pos c86] at H
          have c86b0 : decide (0 ≤ x1_2) = true := decide_eq_true c86
          clear c86
          by_cases c88 : (bt a0 x1_2) = 42
          ·rw [if_pos c88] at H
           have c88b0 : ((bt a0 x1_2) == 42) = true := beq_iff_eq.mpr c88
           have c88b1 : ((bt a0 x1_2) != 42) = false := bne_eq_false_iff_eq.mpr c88
           clear c88
           obtain ⟨y815, hy815⟩ : ∃ y_ : List (S84), y_ = (([(⟨5, 0⟩ : S84)] : List (S84))) := ⟨_, rfl⟩
           replace H : (if y815.length + x6_2.length < 8796093022208 then (spec_l13Read.l0 k2 a0 (wrap64 (x1_2 + 1)) (y815 ++ x6_2)) else (none)) = some (r1, r2) := by first | (rw [hy815]; with_reducible exact H) | (have H2_ := (Option.bind_some _ _).symm.trans H; rw [hy815]; with_reducible exact H2_) | (have H2_ := (Option.bind_some _ _).symm.trans H; with_reducible exact H2_) | with_reducible exact H | (rw [hy815]; exact H) | exact H
           have Ny815 := Aside0.mk hy815
           clear hy815
           by_cases c89 : y815.length + x6_2.length < 8796093022208
           ·rw [if_pos c89] at H
            have LMc89 := Aside0.mk c89
            clear c89
            obtain ⟨y818, hy818⟩ : ∃ y_ : List (S84), y_ = (y815 ++ x6_2) := ⟨_, rfl⟩
            replace H : (spec_l13Read.l0 k2 a0 (wrap64 (x1_2 + 1)) y818) = some (r1, r2) := by first | (rw [hy818]; with_reducible exact H) | (have H2_ := (Option.bind_some _ _).symm.trans H; rw [hy818]; with_reducible exact H2_) | (have H2_ := (Option.bind_some _ _).symm.trans H; with_reducible exact H2_) | with_reducible exact H | (rw [hy818]; exact H) | exact H
            have Ny818 := Aside0.mk hy818
            clear hy818
            have H' := Aside0.mk H
            clear H
            have p87 : 0 ≤ (x1_2 : Int) := ofD
            have q87 : x1_2 < (a0.size : Int) := ofD
            have hx87 := bt_at a0 x1_2
            replace p87 := eq_true p87
            replace q87 := eq_true q87
            go_wp2_with (first | ((with_reducible refine gate_dst (N := 125) rfl ?_); (try (refine gate_guard (by rfl) ?_; dsimp only)); refine Kd.R_lit k84 _ 84 ?hg (N := 125) ?hd (xs := ([(⟨5, 0⟩ : S84)] : List (S84))) (inner := [.int .i64 5, .int .i64 0]) (ok := fun _ => True) (okp := fun _ => True) ?hr ?hp (fun _ hk => hk) trivial (Below.refl _ _) (Nat.le_refl _) (by simp) ?_; (case hd => rfl); (case hg => rfl); (case hr => first | (go_simp; done) | (go_simp; rfl)); (case hp => exact (Reps.c2 (show Kd.M k84 _ _ _ (⟨5, 0⟩ : S84) [.int .i64 5, .int .i64 0] from (k84_mkM _ _ _ (⟨5, 0⟩ : S84) )) (Reps.none _ _))); intro v816 w90 ho91 hb hg_ hnew_; clear hg_ hnew_; (first | rw [← Ny815.out] at ho91 | (simp only [Int.reduceToNat] at ho91; rw [← Ny815.out] at ho91)); have n0_ := Aside0.mk (Kd.R_elder' (rP HO_6.out) (Kd.R_base ho91) hb); have n1_ := Aside0.mk (Kd.R_lower (Kd.R_new' ho91 (Kd.R_lt (rP HO_6.out))) (below_size (bW))); have n2_ := Aside0.mk (below_step (bW) hb); clear HO_6; clear HB; have HO_6 := n0_; have HO817 := n1_; have HB := n2_; clear n0_ n1_ n2_; clear hb ho91; obtain ⟨Ao93, co93, eo93⟩ := Kd.R_slice HO_6.out; subst eo93) | ((with_reducible refine gate_builtin (b := .append) (xs := #[.tmp 125, .tmp 126]) rfl ?_); (try (refine gate_guard (by rfl) ?_; dsimp only)); at_builtin; refine Kd.R_append_rows k84 (w0 := w) w.heap.size rfl (.tmp 125) (.tmp 126) 39 84 (.agg #[(.int .i64 0), (.int .i64 0)]) 16 rfl Tryd.underlying39 info84 rfl (by decide) (by omega) v816 y815 x6_2 _ _ _ (fun k_ => some k_ ≠ (.slice Ao93 x6_2.length co93 : Value).ownBlock) (fun _ => False) rfl rfl ?aO ?aR (fun _ _ h => h) (fun _ h => h.elim) ?aF ?aB ?aS ?aL ?_; (case aR => exact cP ((Kd.R_reads' HO_6.out).2.2)); (case aB => exact (bW)); (case aF => exact (fun k_ hk => Kd.fresh' (Kd.R_lt (rP HO_6.out)) k_ hk)); (case aO => exact (by (with_reducible repeat (first | apply Kd.R_alloc | apply Kd.R_drewN | apply Kd.R_drew)); exact Kd.R_mono HO817.out (fun _ hk => hk.2))); (case aS => exact (below_size (bW))); (case aL => have := LMc89.out; omega); intro v819 w92 ho hb hg hat; rw [← Ny818.out] at ho; have n0_ := Aside0.mk (Kd.R_after (ok := (fun _ => True)) (rP HO_6.out) hg hat); have n1_ := Aside0.mk (hb); have n2_ := Aside0.mk (ho); clear HO_6; clear HB; clear HO817; have HO_6 := n0_; have HB := n1_; have HO820 := n2_; clear n0_ n1_ n2_; clear ho hb hg hat))
            go_roundg k2
            case measure => have := HJ6.out; have := HK2.out; omega
            case rel => exact ⟨(wrap64 (x1_2 + 1)), (y818), (eW), H', ⟨by have := HJ6.out; have := HK2.out; omega⟩, ⟨by (with_reducible repeat (first | apply Kd.R_alloc | apply Kd.R_drewN | apply Kd.R_drew)); exact Kd.R_mono HO820.out (fun _ hk => trivial)⟩, ⟨bW⟩⟩
           ·rw [if_neg c89] at H
            exact absurd H (by simp)
          ·rw [if_neg c88] at H
           have c88b0 : ((bt a0 x1_2) == 42) = false := beq_eq_false_iff_ne.mpr c88
           have c88b1 : ((bt a0 x1_2) != 42) = true := bne_iff_ne.mpr c88
           simp only [Option.some.injEq, Prod.mk.injEq] at H
           obtain ⟨rfl, rfl⟩ := H
           have p87 : 0 ≤ (x1_2 : Int) := ofD
           have q87 : x1_2 < (a0.size : Int) := ofD
           have hx87 := bt_at a0 x1_2
           replace p87 := eq_true p87
           replace q87 := eq_true q87
           go_wp2
           go_ret2
           exact ⟨_, eW, (rP HO_6.out), bW⟩
         ·rw [if_neg c86] at H
          exact absurd H (by simp)
        ·rw [if_neg c85] at H
         have c85b0 : decide (x1_2 < (a0.size : Int)) = false := decide_eq_false c85
         clear c85
         simp only [Option.some.injEq, Prod.mk.injEq] at H
         obtain ⟨rfl, rfl⟩ := H
         go_wp2
         go_ret2
         exact ⟨_, eW, (rP HO_6.out), bW⟩
   ·rw [if_neg c5] at H
    exact absurd H (by simp)
  ·rw [if_neg c4] at H
   exact absurd H (by simp)

end Go.Proofs.YthbaocejgjpfoaaDoor.P
end M1
