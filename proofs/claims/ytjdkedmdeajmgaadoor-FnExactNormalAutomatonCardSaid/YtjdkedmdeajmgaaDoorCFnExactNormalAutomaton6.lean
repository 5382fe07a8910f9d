import Derived.Test.YtjdkedmdeajmgaaDoorCFnExactNormalAutomaton3
import Derived.Test.YtjdkedmdeajmgaaDoorCFnExactNormalAutomaton5
section M0
namespace Go.Proofs.YtjdkedmdeajmgaaDoor.P
open Go.RowKit Go.Proofs.YtjdkedmdeajmgaaDoor.Sh Go.Proofs.YtjdkedmdeajmgaaDoorW.PrintWords Go.Proofs.YtjdkedmdeajmgaaDoorW.PrintLast Go.Proofs.YtjdkedmdeajmgaaDoorW.PrintMore
open Kd
attribute [local go_sem] Zcf Zch Zcv Zcu Zb6 Zb7 Zcg Zce   -- for this text's walks alone
set_option linter.unusedVariables false
set_option linter.unusedSimpArgs false
mutual
def Zaq.l0 : Nat → List Bool → List Int → Int → Int → List (List Int) → List Bool → Option (List Int)
 | 0, _, _, _, _, _, _ => none
 | k + 1, x3, x4, x5, b, c, a => if x5 < (x4.length : Int) then (if 0 ≤ x5 then (if x5 < (x3.length : Int) then (if rdOf false x3 x5 = true then (if x5 < (a.length : Int) then (if rdOf false a x5 = true then (Zaq.l0 k x3 (x4.set (x5 : Int).toNat 1) (wrap64 (x5 + 1)) b c a) else (Zaq.l0 k x3 x4 (wrap64 (x5 + 1)) b c a)) else (none)) else (Zaq.l0 k x3 (x4.set (x5 : Int).toNat (-1)) (wrap64 (x5 + 1)) b c a)) else (none)) else (none)) else (Zaq.l1 k x4 (-1) b c a)
def Zaq.l1 : Nat → List Int → Int → Int → List (List Int) → List Bool → Option (List Int)
 | 0, _, _, _, _, _ => none
 | k + 1, x4, x6, a, b, c => if 0 ≤ (x4.length : Int) then (if ((x4.length : Int) : Int).toNat ≤ 35184372088832 then (Zaq.l2 k x4 x6 (List.replicate ((x4.length : Int) : Int).toNat 0) (([] : List Int)) 0 a b c) else (none)) else (none)
def Zaq.l2 : Nat → List Int → Int → List Int → List Int → Int → Int → List (List Int) → List Bool → Option (List Int)
 | 0, _, _, _, _, _, _, _, _ => none
 | k + 1, x4, x6, x7, x8, x9, a, b, c => if x9 < (x4.length : Int) then (if 0 ≤ x9 then (if x9 < (x7.length : Int) then ((some (x7.set (x9 : Int).toNat (-1) : List Int)).bind fun d => (if (rd x4 x9) < 0 then (Zaq.l2 k x4 x6 d x8 (wrap64 (x9 + 1)) a b c) else (Zaq.l3 k x4 x6 d x8 x9 0 a b c))) else (none)) else (none)) else (if (x8.length : Int) = x6 then (some x7) else (Zaq.l1 k x7 (x8.length : Int) a b c))
def Zaq.l3 : Nat → List Int → Int → List Int → List Int → Int → Int → Int → List (List Int) → List Bool → Option (List Int)
 | 0, _, _, _, _, _, _, _, _, _ => none
 | k + 1, x4, x6, x7, x8, x9, d, a, b, c => if d < (x8.length : Int) then (if 0 ≤ x9 then (if x9 < (x7.length : Int) then (Zaq.j4 k x4 x6 x7 x8 x9 d (decide ((rd x7 x9) < 0)) a b c) else (none)) else (none)) else (Zaq.j4 k x4 x6 x7 x8 x9 d false a b c)
def Zaq.j4 : Nat → List Int → Int → List Int → List Int → Int → Int → Bool → Int → List (List Int) → List Bool → Option (List Int)
 | 0, _, _, _, _, _, _, _, _, _, _ => none
 | k + 1, x4, x6, x7, x8, x9, d, g, a, b, c => if g = true then (if 0 ≤ d then (if d < (x8.length : Int) then ((Zbx.f k a b c x4 x9 (rd x8 d)).bind fun e => (if e = true then (if 0 ≤ x9 then (if x9 < (x7.length : Int) then (Zaq.l3 k x4 x6 (x7.set (x9 : Int).toNat d) x8 x9 (wrap64 (d + 1)) a b c) else (none)) else (none)) else (Zaq.l3 k x4 x6 x7 x8 x9 (wrap64 (d + 1)) a b c))) else (none)) else (none)) else (if 0 ≤ x9 then (if x9 < (x7.length : Int) then (if (rd x7 x9) < 0 then (if x8.length < 17592186044416 then (Zaq.l2 k x4 x6 (x7.set (x9 : Int).toNat (x8.length : Int)) (x8 ++ [x9]) (wrap64 (x9 + 1)) a b c) else (none)) else (Zaq.l2 k x4 x6 x7 x8 (wrap64 (x9 + 1)) a b c)) else (none)) else (none))
end
def Zaq.f (k : Nat) (b : Int) (a : List (List Int)) (c : List Bool) : Option (List Int) := (Zaz.f k b a c).bind fun d => (if 0 ≤ (a.length : Int) then (if ((a.length : Int) : Int).toNat ≤ 35184372088832 then (Zaq.l0 k d (List.replicate ((a.length : Int) : Int).toNat 0) 0 b a c) else (none)) else (none))
def Zaq.T21 : Bool × List (List Nat × List Nat) := (true, [([], []), ([], []), ([], []), ([], []), ([], []), ([3, 4], [3, 4]), ([5], [5]), ([0, 1, 2, 6], [0, 1, 2, 6])])
def Zaq.B21 : List Nat := [0, 0, 0, 0, 0, 24, 56, 127]
theorem Zaq.tab21 : rtab .any (opsOf Tryd.f113 21) = Zaq.T21 := by kernel_rfl
theorem Zaq.bits21 : Zcb Zaq.T21.2 Zaq.B21 = true := by kernel_rfl
set_option maxHeartbeats 8000000 in
set_option maxRecDepth 100000 in
theorem Zaq.calls (k : Nat) (A : Int) (I : Option Addr) (J : Nat) (u : List (List Int)) (M : Option Addr) (L : Nat) (x : List Bool) (r : List Int) (w : World) (bH : Kd.C (Kd.slice 2 (Kd.int .i64)) w I u.length u) (bI : u.length ≤ J) (bJ : Kd.C Kd.bool w M x.length x) (bK : x.length ≤ L) (h : Zaq.f k A u x = some r) :
  Calls Tryd.prog 113 #[.agg #[.int .i64 A, .slice I u.length J, .slice M x.length L]] w fun e w' => ∃ dm : Value, e = .returned (dm) ∧ Kd.R (Kd.int .i64) 2 w' w.heap.size (fun _ => True) dm r ∧ Below w.heap.size w w' := by
 have ev := Tryd.underlying66
 have a2 := mA bH
 have a3 := mA bI
 clear bH bI
 have az := mA bJ
 have a4 := mA bK
 clear bJ bK
 have HB := mA (Below.refl w.heap.size w)
 unfold Zaq.f at h
 have H := h
 clear h
 obtain ⟨ao, A2, H⟩ := bA H
 by_cases c3 : 0 ≤ (u.length : Int); rotate_left
 ·rw [if_neg c3] at H
  exact absurd H (by simp)
 rw [if_pos c3] at H
 have dr := eq_true c3
 have dt := dT c3
 clear c3
 by_cases c4 : ((u.length : Int) : Int).toNat ≤ 35184372088832; rotate_left
 ·rw [if_neg c4] at H
  exact absurd H (by simp)
 rw [if_pos c4] at H
 have du := eq_true c4
 have dv := dT c4
 clear c4
 obtain ⟨dw, a5⟩ := nm ((List.replicate ((u.length : Int) : Int).toNat 0) : List Int)
 rw [← a5.out] at H
 have H' := mA H
 clear H
 go_enter Tryd.func113, Tryd.ntmps113
 go_wp2_with (first | ((with_reducible refine Zat (N := 1) rfl ?_); refine boxS (N := 1) (cs := #[.int .i64 A, .slice I u.length J, .slice M x.length L]) (t := 66) ?_; intro D hg w5 hbox hb; have a := mA (hbox); have ej := geW (w := w) hg; have ek := geW (w := w) hg; replace HB := mA (Zaf (bW) hb); clear hb hbox hg; obtain ⟨b4, b5, b6⟩ := cells3 a.out; obtain ⟨b7, b8, b9⟩ := frz3 a.out) | ((with_reducible refine Zax (f := 42) rfl ?_); refine Zbi (some 12) Tryd.func42 #[.agg #[.int .i64 A, .slice I u.length J, .slice M x.length L]] ?_; (with_reducible refine (Zaz.calls k A _ _ u _ _ x ao _ ?side1 ?side2 ?side3 ?side4 A2.out).mono ?_); (case side1 => exact cP (zQ a2.out HB.out)); (case side2 => exact a3.out); (case side3 => exact cP (zQ az.out HB.out)); (case side4 => exact a4.out); rintro e w7 ⟨dx, rfl, dn, hb⟩; refine ⟨_, rfl, ?_⟩; have a6 := mA (zS dn (Zaj (bW))); replace a := mA (blkB a.out hb); replace HB := mA (Zaf (bW) hb); (try clear hb); (try clear hb2); (try clear hk); (try clear hi); (try clear dn); obtain ⟨ca, cb, cc⟩ := cells3 a.out; obtain ⟨cd, ce, cf⟩ := frz3 a.out) | ((with_reducible refine Zat (N := 16) rfl ?_); refine xB (Kd.int .i64) _ 2 rfl (N := 16) rfl 22 _ _ rfl (u.length : Int) rfl rfl Tryd.underlying22 (.int .i64 0) 8 Zci rfl (by decide) (by omega) 0 (ok := fun _ => True) (okp := fun _ => True) rfl (fun _ hk => hk) trivial (ofD) (Nat.le_trans (Nat.mul_le_mul_right _ (ofD : (u.length : Int).toNat ≤ 35184372088832)) (by omega)) (Below.refl _ _) (Nat.le_refl _) ?_; intro dy w9 aM hb hg_ hnew_; clear hg_ hnew_; (first | rw [← a5.out] at aM | (simp only [Int.reduceToNat] at aM; rw [← a5.out] at aM)); replace a6 := mA (zK (rP a6.out) hb); have cS := mA (zS aM (Zaj (bW))); replace a := mA (blkB a.out hb); replace HB := mA (Zaf (bW) hb); clear hb aM))
 go_loopg [5] k (fun kq v5 w' => ∃ (X : List Int) (y : Int), v5 = .int .i64 y ∧ Zac (Zaq.l0 kq ao X y A u x = some r) ∧ Zac (kq ≤ k) ∧ Zac (Kd.R Kd.bool 4 w' w.heap.size (fun _ => True) dx ao) ∧ Zac (Kd.R (Kd.int .i64) 2 w' w.heap.size (fun _ => True) dy X) ∧ Zac (w'.heap[D]? = some (.cells #[.int .i64 A, (.slice I u.length J), (.slice M x.length L)] 66 (0, 0))) ∧ Zac (Below w.heap.size w w'))
 case atStart => exact ⟨(dw), (0), (eW), H', ⟨Nat.le_refl _⟩, ⟨rP a6.out⟩, ⟨rP cS.out⟩, ⟨bP a.out⟩, ⟨bW⟩⟩
 case round =>
  clear H' dr dt du dv b4 b5 b6 ca cb cc b7 b8 b9 cd ce cf
  obtain ⟨X, y, rfl, HA, W, Y, c, a, HB⟩ := hrel
  cases gk with
  | zero => exact absurd HA.out (by simp [Zaq.l0])
  | succ k1 =>
   have H := HA.out
   clear HA
   simp only [Zaq.l0] at H
   by_cases aW : y < (X.length : Int)
   ·rw [if_pos aW] at H
    have bL := dT aW
    clear aW
    obtain ⟨el, H⟩ := gE H
    obtain ⟨em, H⟩ := gE H
    obtain ⟨dz, am⟩ := nm (rdOf false ao y)
    rw [← am.out] at H
    by_cases bM : dz = true; rotate_left
    ·replace bM := Bool.eq_false_iff.mpr bM
     subst bM
     rw [iF] at H
     obtain ⟨cg, bN⟩ := nm ((X.set (y : Int).toNat (-1)) : List Int)
     rw [← bN.out] at H
     have H' := mA H
     clear H
     obtain ⟨ew, ch, dA⟩ := zP c.out
     subst dA
     obtain ⟨ey, ez, dB⟩ := zP Y.out
     subst dB
     have ad : 0 ≤ (y : Int) := ofD
     have ae : y < (ao.length : Int) := ofD
     obtain ⟨bO, aN, aa⟩ := yD (zJ Y.out).2.2 y ad ae
     (try rw [← am.out] at aa)
     cases aN
     replace ad := eq_true ad
     replace ae := eq_true ae
     have ci : 0 ≤ (y : Int) := ofD
     have cj : (y : Int) < ((X.length : Int) : Int) := ofD
     obtain ⟨a7, eA, ck, cm, dC, eB, cn⟩ := yK c.out (by omega)
     (first | cases ck | (injection ck with ea_ en_ ec_; (first | subst ea_ | (injection ea_ with ea_; subst ea_)); subst ec_; clear en_))
     have dD := mA cm
     have eC := mA cn
     clear cm dC cn
     obtain ⟨eb, ec⟩ := yF 0 c.out (y : Int) ci cj
     replace ci := eq_true ci
     replace cj := eq_true cj
     have bm := yI c.out (y : Int) (-1)
     go_wp2_with (first | ((with_reducible refine Zbq (t := 2) (p := 30) rfl ?_); refine Zdg (t := 2) (p := 30) (w1 := (wr.setCell ⟨a7, (y : Int).toNat, none⟩ (.int .i64 (-1)))) ?_; intro co hw; have hg : wr.grownBy co (some a7) := (by rw [hw]; exact bm.2); have hp_ : Kd.R (Kd.int .i64) 2 co w.heap.size (fun _ => True) (.slice (some ⟨a7, 0, none⟩) X.length ch) cg := (by rw [hw, bN.out]; exact bm.1); clear bm; replace Y := mA (yB (v := (.slice (some ⟨a7, 0, none⟩) X.length ch)) (rP Y.out) (zY c.out) (by decide) hg); replace a := mA (Zah (g := D) (o := .cells #[.int .i64 A, .slice I u.length J, .slice M x.length L] 66 (0, 0)) (bP a.out) hg (zN c.out a.out (by decide))); replace c := mA (hp_); replace HB := mA ((by rw [hw]; exact Za9 (HB.out) dD.out : Below w.heap.size w co)); clear hg hw hp_))
     go_roundg k1
     case measure => have := W.out; omega
     case rel => exact ⟨(cg), (wrap64 (y + 1)), (eW), H', ⟨by have := W.out; omega⟩, ⟨rP Y.out⟩, ⟨rP c.out⟩, ⟨bP a.out⟩, ⟨bW⟩⟩
    subst bM
    rw [if_pos rfl] at H
    obtain ⟨en, H⟩ := gE H
    obtain ⟨dE, aA⟩ := nm (rdOf false x y)
    rw [← aA.out] at H
    by_cases bQ : dE = true; rotate_left
    ·replace bQ := Bool.eq_false_iff.mpr bQ
     subst bQ
     rw [iF] at H
     have H' := mA H
     clear H
     obtain ⟨eD, eE, dG⟩ := zP c.out
     subst dG
     obtain ⟨eF, eG, dH⟩ := zP Y.out
     subst dH
     have ad : 0 ≤ (y : Int) := ofD
     have ae : y < (ao.length : Int) := ofD
     obtain ⟨bO, aN, aa⟩ := yD (zJ Y.out).2.2 y ad ae
     (try rw [← am.out] at aa)
     (try rw [← aA.out] at aa)
     cases aN
     replace ad := eq_true ad
     replace ae := eq_true ae
     have dZ : wr.cell? ⟨D, 0, none⟩ = some (.int .i64 A) := bc a 0
     have d0 : wr.cell? ⟨D, 1, none⟩ = some (.slice I u.length J) := bc a 1
     have d1 : wr.cell? ⟨D, 2, none⟩ = some (.slice M x.length L) := bc a 2
     have d2 := Zae a.out 0
     have d3 := Zae a.out 1
     have d4 := Zae a.out 2
     have ap : 0 ≤ (y : Int) := ofD
     have aq : y < (x.length : Int) := ofD
     obtain ⟨bR, bn, P⟩ := yD az.out y ap aq
     (try rw [← am.out] at P)
     (try rw [← aA.out] at P)
     cases bn
     replace P := (HB.out.cell (wB w P)).trans P
     replace ap := eq_true ap
     replace aq := eq_true aq
     go_wp2
     go_roundg k1
     case measure => have := W.out; omega
     case rel => exact ⟨(X), (wrap64 (y + 1)), (eW), H', ⟨by have := W.out; omega⟩, ⟨rP Y.out⟩, ⟨rP c.out⟩, ⟨bP a.out⟩, ⟨bW⟩⟩
    subst bQ
    rw [if_pos rfl] at H
    obtain ⟨cp, bS⟩ := nm ((X.set (y : Int).toNat 1) : List Int)
    rw [← bS.out] at H
    have H' := mA H
    clear H
    obtain ⟨eH, cq, dI⟩ := zP c.out
    subst dI
    obtain ⟨eI, eJ, dJ⟩ := zP Y.out
    subst dJ
    have ad : 0 ≤ (y : Int) := ofD
    have ae : y < (ao.length : Int) := ofD
    obtain ⟨bO, aN, aa⟩ := yD (zJ Y.out).2.2 y ad ae
    (try rw [← am.out] at aa)
    (try rw [← aA.out] at aa)
    cases aN
    replace ad := eq_true ad
    replace ae := eq_true ae
    have d5 : wr.cell? ⟨D, 0, none⟩ = some (.int .i64 A) := bc a 0
    have d6 : wr.cell? ⟨D, 1, none⟩ = some (.slice I u.length J) := bc a 1
    have d7 : wr.cell? ⟨D, 2, none⟩ = some (.slice M x.length L) := bc a 2
    have d8 := Zae a.out 0
    have d9 := Zae a.out 1
    have ea := Zae a.out 2
    have ap : 0 ≤ (y : Int) := ofD
    have aq : y < (x.length : Int) := ofD
    obtain ⟨bR, bn, P⟩ := yD az.out y ap aq
    (try rw [← am.out] at P)
    (try rw [← aA.out] at P)
    cases bn
    replace P := (HB.out.cell (wB w P)).trans P
    replace ap := eq_true ap
    replace aq := eq_true aq
    have cr : 0 ≤ (y : Int) := ofD
    have ct : (y : Int) < ((X.length : Int) : Int) := ofD
    obtain ⟨a8, eK, cu, cv, dK, eL, cw⟩ := yK c.out (by omega)
    (first | cases cu | (injection cu with ea_ en_ ec_; (first | subst ea_ | (injection ea_ with ea_; subst ea_)); subst ec_; clear en_))
    have dL := mA cv
    have eM := mA cw
    clear cv dK cw
    obtain ⟨ed, ee⟩ := yF 0 c.out (y : Int) cr ct
    replace cr := eq_true cr
    replace ct := eq_true ct
    have bo := yI c.out (y : Int) 1
    go_wp2_with (first | ((with_reducible refine Zbq (t := 2) (p := 38) rfl ?_); refine Zdg (t := 2) (p := 38) (w1 := (wr.setCell ⟨a8, (y : Int).toNat, none⟩ (.int .i64 1))) ?_; intro cx hw; have hg : wr.grownBy cx (some a8) := (by rw [hw]; exact bo.2); have hp_ : Kd.R (Kd.int .i64) 2 cx w.heap.size (fun _ => True) (.slice (some ⟨a8, 0, none⟩) X.length cq) cp := (by rw [hw, bS.out]; exact bo.1); clear bo; replace Y := mA (yB (v := (.slice (some ⟨a8, 0, none⟩) X.length cq)) (rP Y.out) (zY c.out) (by decide) hg); replace a := mA (Zah (g := D) (o := .cells #[.int .i64 A, .slice I u.length J, .slice (some bR) x.length L] 66 (0, 0)) (bP a.out) hg (zN c.out a.out (by decide))); replace c := mA (hp_); replace HB := mA ((by rw [hw]; exact Za9 (HB.out) dL.out : Below w.heap.size w cx)); clear hg hw hp_))
    go_roundg k1
    case measure => have := W.out; omega
    case rel => exact ⟨(cp), (wrap64 (y + 1)), (eW), H', ⟨by have := W.out; omega⟩, ⟨rP Y.out⟩, ⟨rP c.out⟩, ⟨bP a.out⟩, ⟨bW⟩⟩
   rw [if_neg aW] at H
   have bL := dF aW
   clear aW
   have H' := mA H
   clear H
   obtain ⟨eN, eO, dM⟩ := zP c.out
   subst dM
   go_wp2
   go_loopg [4, 6] k1 (fun kq v4 v6 w' => ∃ (m : List Int) (ac : Int), v6 = .int .i64 ac ∧ Zac (Zaq.l1 kq m ac A u x = some r) ∧ Zac (kq ≤ k1) ∧ Zac (Kd.R (Kd.int .i64) 2 w' w.heap.size (fun _ => True) v4 m) ∧ Zac (w'.heap[D]? = some (.cells #[.int .i64 A, (.slice I u.length J), (.slice M x.length L)] 66 (0, 0))) ∧ Zac (Below w.heap.size w w'))
   case atStart => exact ⟨(X), ((-1)), (eW), H', ⟨Nat.le_refl _⟩, ⟨rP c.out⟩, ⟨bP a.out⟩, ⟨bW⟩⟩
   case round =>
    clear H' bL
    obtain ⟨m, ac, rfl, HA, af, c, a, HB⟩ := hrel
    cases gk with
    | zero => exact absurd HA.out (by simp [Zaq.l1])
    | succ k2 =>
     have H := HA.out
     clear HA
     simp only [Zaq.l1] at H
     by_cases bh : 0 ≤ (m.length : Int); rotate_left
     ·rw [if_neg bh] at H
      exact absurd H (by simp)
     rw [if_pos bh] at H
     have cT := eq_true bh
     have cU := dT bh
     clear bh
     by_cases bi : ((m.length : Int) : Int).toNat ≤ 35184372088832; rotate_left
     ·rw [if_neg bi] at H
      exact absurd H (by simp)
     rw [if_pos bi] at H
     have cV := eq_true bi
     have cW := dT bi
     clear bi
     obtain ⟨cy, a9⟩ := nm ((List.replicate ((m.length : Int) : Int).toNat 0) : List Int)
     rw [← a9.out] at H
     obtain ⟨cz, ba⟩ : ∃ y_ : List Int, y_ = (([] : List Int)) := ⟨_, rfl⟩
     replace H : (Zaq.l2 k2 m ac cy cz 0 A u x) = some r := by rw [ba]; with_reducible exact H
     have bT := mA ba
     clear ba
     have H' := mA H
     clear H
     obtain ⟨ar, O, dN⟩ := zP c.out
     subst dN
     go_wp2_with (first | ((with_reducible refine Zat (N := 41) rfl ?_); refine xB (Kd.int .i64) _ 2 rfl (N := 41) rfl 22 _ _ rfl (m.length : Int) rfl rfl Tryd.underlying22 (.int .i64 0) 8 Zci rfl (by decide) (by omega) 0 (ok := fun _ => True) (okp := fun _ => True) rfl (fun _ hk => hk) trivial (ofD) (Nat.le_trans (Nat.mul_le_mul_right _ (ofD : (m.length : Int).toNat ≤ 35184372088832)) (by omega)) (Below.refl _ _) (Nat.le_refl _) ?_; intro bp e3 aE hb hg_ hnew_; clear hg_ hnew_; (first | rw [← a9.out] at aE | (simp only [Int.reduceToNat] at aE; rw [← a9.out] at aE)); have aK := mA (zS (yC aE (zI (rP c.out))) (Zaj (bW))); replace c := mA (zZ (rP c.out) (zU aE) hb); replace a := mA (blkB a.out hb); replace HB := mA (Zaf (bW) hb); clear hb aE) | ((with_reducible refine Zat (N := 42) rfl ?_); refine yP (Kd.int .i64) _ 2 ?hg (N := 42) ?hd (xs := ([] : List Int)) (inner := []) (ok := fun _ => True) (okp := fun _ => True) ?hr ?hp (fun _ hk => hk) trivial (Below.refl _ _) (Nat.le_refl _) (by simp) ?_; (case hd => rfl); (case hg => rfl); (case hr => first | (go_simp; done) | (go_simp; rfl)); (case hp => exact (Reps.none _ _)); intro eP e4 au hb hg_ hnew_; clear hg_ hnew_; (first | rw [← bT.out] at au | (simp only [Int.reduceToNat] at au; rw [← bT.out] at au)); have cX := mA (zS (yC (yC au (zI (rP c.out))) (zI (rP aK.out))) (Zaj (bW))); replace c := mA (zZ (rP c.out) (zU au) hb); replace aK := mA (zZ (rP aK.out) (zU au) hb); replace a := mA (blkB a.out hb); replace HB := mA (Zaf (bW) hb); clear hb au))
     go_loopg [8, 9] k2 (fun kq v8 v9 w' => ∃ (T : List Int) (z : List Int) (d : Int), v9 = .int .i64 d ∧ Zac (Zaq.l2 kq m ac T z d A u x = some r) ∧ Zac (kq ≤ k2) ∧ Zac (Kd.R (Kd.int .i64) 2 w' w.heap.size (fun k_ => some k_ ≠ (bp : Value).ownBlock ∧ some k_ ≠ (v8 : Value).ownBlock) (.slice ar m.length O) m) ∧ Zac (Kd.R (Kd.int .i64) 2 w' w.heap.size (fun k_ => some k_ ≠ ((.slice ar m.length O) : Value).ownBlock ∧ some k_ ≠ (v8 : Value).ownBlock) bp T) ∧ Zac (Kd.R (Kd.int .i64) 2 w' w.heap.size (fun k_ => some k_ ≠ ((.slice ar m.length O) : Value).ownBlock ∧ some k_ ≠ (bp : Value).ownBlock) v8 z) ∧ Zac (w'.heap[D]? = some (.cells #[.int .i64 A, (.slice I u.length J), (.slice M x.length L)] 66 (0, 0))) ∧ Zac (Below w.heap.size w w'))
     case atStart => exact ⟨(cy), (cz), (0), (eW), H', ⟨Nat.le_refl _⟩, ⟨by (with_reducible repeat (first | apply zC | apply zD | apply zA)); exact zB c.out (fun _ hk => ⟨hk.1.2, hk.2⟩)⟩, ⟨by (with_reducible repeat (first | apply zC | apply zD | apply zA)); exact zB aK.out (fun _ hk => ⟨hk.1.2, hk.2⟩)⟩, ⟨by (with_reducible repeat (first | apply zC | apply zD | apply zA)); exact zB cX.out (fun _ hk => ⟨hk.1.2, hk.2⟩)⟩, ⟨bP a.out⟩, ⟨bW⟩⟩
     case round =>
      clear H' cT cU cV cW
      obtain ⟨T, z, d, rfl, HA, ag, c, j, q, a, HB⟩ := hrel
      cases gk with
      | zero => exact absurd HA.out (by simp [Zaq.l2])
      | succ k3 =>
       have H := HA.out
       clear HA
       simp only [Zaq.l2] at H
       by_cases aX : d < (m.length : Int); rotate_left
       ·rw [if_neg aX] at H
        have bU := dF aX
        clear aX
        by_cases aQ : (z.length : Int) = ac
        ·rw [if_pos aQ] at H
         have cY : ((z.length : Int) == ac) = true := beq_iff_eq.mpr aQ
         have cZ : ((z.length : Int) != ac) = false := bne_eq_false_iff_eq.mpr aQ
         clear aQ
         obtain rfl := oI H
         obtain ⟨eQ, eR, dO⟩ := zP q.out
         subst dO
         go_wp2
         go_ret
         exact ⟨_, eW, by (with_reducible repeat (first | apply zC | apply zD | apply zA)); exact zB j.out (fun _ hk => trivial), bW⟩
        rw [if_neg aQ] at H
        have cY : ((z.length : Int) == ac) = false := beq_eq_false_iff_ne.mpr aQ
        have cZ : ((z.length : Int) != ac) = true := bne_iff_ne.mpr aQ
        have H' := mA H
        clear H
        obtain ⟨eS, eT, dP⟩ := zP q.out
        subst dP
        go_wp2
        go_roundg k3
        case measure => have := W.out; have := af.out; have := ag.out; omega
        case rel => exact ⟨(T), ((z.length : Int)), (eW), H', ⟨by have := W.out; have := af.out; have := ag.out; omega⟩, ⟨by (with_reducible repeat (first | apply zC | apply zD | apply zA)); exact zB j.out (fun _ hk => trivial)⟩, ⟨bP a.out⟩, ⟨bW⟩⟩
       rw [if_pos aX] at H
       have bU := dT aX
       clear aX
       obtain ⟨c0, H⟩ := gE H
       obtain ⟨c1, H⟩ := gE H
       obtain ⟨bb, bd⟩ : ∃ y_ : List Int, y_ = (T.set (d : Int).toNat (-1)) := ⟨_, rfl⟩
       replace H := bsm bd H
       have bV := mA bd
       clear bd
       by_cases aY : (rd m d) < 0
       ·rw [if_pos aY] at H
        have bX := dT aY
        clear aY
        have H' := mA H
        clear H
        have aI : 0 ≤ (d : Int) := ofD
        have aJ : (d : Int) < ((T.length : Int) : Int) := ofD
        obtain ⟨s, G, aR, aT, bq, dQ, aU⟩ := yK j.out (by omega)
        (first | cases aR | (injection aR with ea_ en_ ec_; (first | subst ea_ | (injection ea_ with ea_; subst ea_)); subst ec_; clear en_))
        have aV := mA aT
        have dR := mA aU
        clear aT bq aU
        obtain ⟨bj, cA⟩ := yF 0 j.out (d : Int) aI aJ
        replace aI := eq_true aI
        replace aJ := eq_true aJ
        have br := yI j.out (d : Int) (-1)
        go_wp2_with (first | ((with_reducible refine Zbq (t := 2) (p := 51) rfl ?_); refine Zdg (t := 2) (p := 51) (w1 := (wr.setCell ⟨s, (d : Int).toNat, none⟩ (.int .i64 (-1)))) ?_; intro cB hw; have hg : wr.grownBy cB (some s) := (by rw [hw]; exact br.2); have hp_ : Kd.R (Kd.int .i64) 2 cB w.heap.size (fun k_ => some k_ ≠ (.slice ar m.length O : Value).ownBlock ∧ some k_ ≠ (u8 : Value).ownBlock) (.slice (some ⟨s, 0, none⟩) T.length G) bb := (by rw [hw, bV.out]; exact br.1); clear br; replace c := mA (zR (v := (.slice (some ⟨s, 0, none⟩) T.length G)) (v1 := (.slice (some ⟨s, 0, none⟩) T.length G)) (ok := (fun k_ => some k_ ≠ (u8 : Value).ownBlock)) (by (with_reducible repeat (first | apply zC | apply zD | apply zA)); exact zB c.out (fun _ hk => ⟨hk.2, hk.1⟩)) hg (.inl rfl)); replace q := mA (zR (v := (.slice (some ⟨s, 0, none⟩) T.length G)) (v1 := (.slice (some ⟨s, 0, none⟩) T.length G)) (ok := (fun k_ => some k_ ≠ (.slice ar m.length O : Value).ownBlock)) (rP q.out) hg (.inl rfl)); replace a := mA (Zah (g := D) (o := .cells #[.int .i64 A, .slice I u.length J, .slice M x.length L] 66 (0, 0)) (bP a.out) hg (zN j.out a.out (by decide))); replace j := mA (hp_); replace HB := mA ((by rw [hw]; exact Za9 (HB.out) aV.out : Below w.heap.size w cB)); clear hg hw hp_; have aj : 0 ≤ (d : Int) := ofD; have ak : d < (m.length : Int) := ofD; obtain ⟨U, bs, aZ⟩ := zO (zJ c.out).2.2 d aj ak; cases bs; replace aj := eq_true aj; replace ak := eq_true ak))
        go_roundg k3
        case measure => have := W.out; have := af.out; have := ag.out; omega
        case rel => exact ⟨(bb), (z), (wrap64 (d + 1)), (eW), H', ⟨by have := W.out; have := af.out; have := ag.out; omega⟩, ⟨by (with_reducible repeat (first | apply zC | apply zD | apply zA)); exact zB c.out (fun _ hk => ⟨hk.2, hk.1⟩)⟩, ⟨rP j.out⟩, ⟨rP q.out⟩, ⟨bP a.out⟩, ⟨bW⟩⟩
       rw [if_neg aY] at H
       have bX := dF aY
       clear aY
       have H' := mA H
       clear H
       have aI : 0 ≤ (d : Int) := ofD
       have aJ : (d : Int) < ((T.length : Int) : Int) := ofD
       obtain ⟨s, G, aR, aT, bq, dQ, aU⟩ := yK j.out (by omega)
       (first | cases aR | (injection aR with ea_ en_ ec_; (first | subst ea_ | (injection ea_ with ea_; subst ea_)); subst ec_; clear en_))
       have aV := mA aT
       have dR := mA aU
       clear aT bq aU
       obtain ⟨bj, cA⟩ := yF 0 j.out (d : Int) aI aJ
       replace aI := eq_true aI
       replace aJ := eq_true aJ
       have bu := yI j.out (d : Int) (-1)
       go_wp2_with (first | ((with_reducible refine Zbq (t := 2) (p := 51) rfl ?_); refine Zdg (t := 2) (p := 51) (w1 := (wr.setCell ⟨s, (d : Int).toNat, none⟩ (.int .i64 (-1)))) ?_; intro cC hw; have hg : wr.grownBy cC (some s) := (by rw [hw]; exact bu.2); have hp_ : Kd.R (Kd.int .i64) 2 cC w.heap.size (fun k_ => some k_ ≠ (.slice ar m.length O : Value).ownBlock ∧ some k_ ≠ (u8 : Value).ownBlock) (.slice (some ⟨s, 0, none⟩) T.length G) bb := (by rw [hw, bV.out]; exact bu.1); clear bu; replace c := mA (zR (v := (.slice (some ⟨s, 0, none⟩) T.length G)) (v1 := (.slice (some ⟨s, 0, none⟩) T.length G)) (ok := (fun k_ => some k_ ≠ (u8 : Value).ownBlock)) (by (with_reducible repeat (first | apply zC | apply zD | apply zA)); exact zB c.out (fun _ hk => ⟨hk.2, hk.1⟩)) hg (.inl rfl)); replace q := mA (zR (v := (.slice (some ⟨s, 0, none⟩) T.length G)) (v1 := (.slice (some ⟨s, 0, none⟩) T.length G)) (ok := (fun k_ => some k_ ≠ (.slice ar m.length O : Value).ownBlock)) (rP q.out) hg (.inl rfl)); replace a := mA (Zah (g := D) (o := .cells #[.int .i64 A, .slice I u.length J, .slice M x.length L] 66 (0, 0)) (bP a.out) hg (zN j.out a.out (by decide))); replace j := mA (hp_); replace HB := mA ((by rw [hw]; exact Za9 (HB.out) aV.out : Below w.heap.size w cC)); clear hg hw hp_; have aj : 0 ≤ (d : Int) := ofD; have ak : d < (m.length : Int) := ofD; obtain ⟨U, bs, aZ⟩ := zO (zJ c.out).2.2 d aj ak; cases bs; replace aj := eq_true aj; replace ak := eq_true ak))
       go_loopg [10] k3 (fun kq v10 w' => ∃ (B : List Int) (E : Int), v10 = .int .i64 E ∧ Zac (Zaq.l3 kq m ac B z d E A u x = some r) ∧ Zac (kq ≤ k3) ∧ Zac (Kd.R (Kd.int .i64) 2 w' w.heap.size (fun k_ => some k_ ≠ ((.slice (some ⟨s, 0, none⟩) T.length G) : Value).ownBlock ∧ some k_ ≠ (u8 : Value).ownBlock) (.slice (some U) m.length O) m) ∧ Zac (Kd.R (Kd.int .i64) 2 w' w.heap.size (fun k_ => some k_ ≠ ((.slice (some U) m.length O) : Value).ownBlock ∧ some k_ ≠ (u8 : Value).ownBlock) (.slice (some ⟨s, 0, none⟩) T.length G) B) ∧ Zac (Kd.R (Kd.int .i64) 2 w' w.heap.size (fun k_ => some k_ ≠ ((.slice (some U) m.length O) : Value).ownBlock ∧ some k_ ≠ ((.slice (some ⟨s, 0, none⟩) T.length G) : Value).ownBlock) u8 z) ∧ Zac (w'.heap[D]? = some (.cells #[.int .i64 A, (.slice I u.length J), (.slice M x.length L)] 66 (0, 0))) ∧ Zac (Below w.heap.size w w'))
       case atStart => exact ⟨(bb), (0), (eW), H', ⟨Nat.le_refl _⟩, ⟨by (with_reducible repeat (first | apply zC | apply zD | apply zA)); exact zB c.out (fun _ hk => ⟨hk.2, hk.1⟩)⟩, ⟨rP j.out⟩, ⟨rP q.out⟩, ⟨bP a.out⟩, ⟨bW⟩⟩
       case round =>
        clear H' bU c0 c1 aI aJ bX bj aZ aj ak
        obtain ⟨B, E, rfl, HA, an, c, j, q, a, HB⟩ := hrel
        have l := (zJ j.out).1
        rw [l] at j
        (try simp only [l])
        (try simp only [l] at a)
        (try simp only [l] at c)
        (try simp only [l] at q)
        cases gk with
        | zero => exact absurd HA.out (by simp [Zaq.l3])
        | succ k4 =>
         have H := HA.out
         clear HA
         simp only [Zaq.l3] at H
         have bv := mA H
         clear H
         go_upto_region 19 with (fail)
         go_cut [67] (fun v67 wc => ∃ (kq : Nat) (aC : Bool), v67 = .bool aC ∧ Zac (Zaq.j4 kq m ac B z d E aC A u x = some r) ∧ Zac (kq ≤ k4) ∧ Zac (Kd.R (Kd.int .i64) 2 wc w.heap.size (fun k_ => some k_ ≠ ((.slice (some ⟨s, 0, none⟩) B.length G) : Value).ownBlock ∧ some k_ ≠ (u8 : Value).ownBlock) (.slice (some U) m.length O) m) ∧ Zac (Kd.R (Kd.int .i64) 2 wc w.heap.size (fun k_ => some k_ ≠ ((.slice (some U) m.length O) : Value).ownBlock ∧ some k_ ≠ (u8 : Value).ownBlock) (.slice (some ⟨s, 0, none⟩) B.length G) B) ∧ Zac (Kd.R (Kd.int .i64) 2 wc w.heap.size (fun k_ => some k_ ≠ ((.slice (some U) m.length O) : Value).ownBlock ∧ some k_ ≠ ((.slice (some ⟨s, 0, none⟩) B.length G) : Value).ownBlock) u8 z) ∧ Zac (wc.heap[D]? = some (.cells #[.int .i64 A, (.slice I u.length J), (.slice M x.length L)] 66 (0, 0))) ∧ Zac (Below w.heap.size w wc))
         case first =>
          have H := bv.out
          clear bv
          by_cases a0 : E < (z.length : Int); rotate_left
          ·rw [if_neg a0] at H
           have ai := dF a0
           (try (have bf := ai; simp only [l] at bf))
           clear a0
           (first | rw [ai] | (simp only [Zcq, i32_w]; rw [ai]) | skip)
           have H' := mA H
           clear H
           obtain ⟨eU, eV, dS⟩ := zP q.out
           subst dS
           go_wp2
           go_meet
           case rel => exact ⟨_, (false), (eW), H', ⟨by have := W.out; have := af.out; have := ag.out; have := an.out; first | omega | exact Nat.le_refl _⟩, ⟨by (try simp only [l]); exact rP c.out⟩, ⟨by (try simp only [l]); exact rP j.out⟩, ⟨by (try simp only [l]); exact rP q.out⟩, ⟨by (try simp only [l]); exact bP a.out⟩, ⟨bW⟩⟩
          rw [if_pos a0] at H
          have ai := dT a0
          (try (have bf := ai; simp only [l] at bf))
          clear a0
          (first | rw [ai] | (simp only [Zcq, i32_w]; rw [ai]) | skip)
          obtain ⟨eo, H⟩ := gE H
          obtain ⟨da, H⟩ := gE H
          (try (have db := da; simp only [l] at db))
          have H' := mA H
          clear H
          obtain ⟨eX, eY, dU⟩ := zP q.out
          subst dU
          have bw : 0 ≤ (d : Int) := ofD
          have bx : d < (B.length : Int) := ofD
          obtain ⟨dc, dV, aG⟩ := zO (zJ j.out).2.2 d bw bx
          obtain rfl : (⟨s, 0, none⟩ : Addr) = dc := (by injection dV)
          (first | simp only [Zcm] at aG | simp only [add_at] at aG | simp only [Addr.add, Nat.zero_add] at aG | skip)
          replace bw := eq_true bw
          replace bx := eq_true bx
          go_wp2
          go_meet
          case rel => exact ⟨_, (decide ((rd B d) < 0)), (eW), H', ⟨by have := W.out; have := af.out; have := ag.out; have := an.out; first | omega | exact Nat.le_refl _⟩, ⟨by (try simp only [l]); exact rP c.out⟩, ⟨by (try simp only [l]); exact rP j.out⟩, ⟨by (try simp only [l]); exact rP q.out⟩, ⟨by (try simp only [l]); exact bP a.out⟩, ⟨bW⟩⟩
         case rest =>
          clear bv
          obtain ⟨kq, aC, rfl, HA, al, c, j, q, a, HB⟩ := hcut
          cases kq with
          | zero => exact absurd HA.out (by simp [Zaq.j4])
          | succ aH =>
           have H := HA.out
           clear HA
           simp only [Zaq.j4] at H
           by_cases bY : aC = true; rotate_left
           ·replace bY := Bool.eq_false_iff.mpr bY
            subst bY
            rw [iF] at H
            obtain ⟨ep, H⟩ := gE H
            obtain ⟨dd, H⟩ := gE H
            (try (have de := dd; simp only [l] at de))
            by_cases a1 : (rd B d) < 0; rotate_left
            ·rw [if_neg a1] at H
             have df := dF a1
             clear a1
             have H' := mA H
             clear H
             have av : 0 ≤ (d : Int) := ofD
             have aw : d < (B.length : Int) := ofD
             obtain ⟨bg, bz, ab⟩ := zO (zJ j.out).2.2 d av aw
             obtain rfl : (⟨s, 0, none⟩ : Addr) = bg := (by injection bz)
             (first | simp only [Zcm] at ab | simp only [add_at] at ab | simp only [Addr.add, Nat.zero_add] at ab | skip)
             replace av := eq_true av
             replace aw := eq_true aw
             go_wp2
             (try simp only [← l])
             go_roundg aH
             case measure => have := W.out; have := af.out; have := ag.out; have := an.out; have := al.out; omega
             case rel => exact ⟨(B), (z), (wrap64 (d + 1)), (eW), H', ⟨by have := W.out; have := af.out; have := ag.out; have := an.out; have := al.out; omega⟩, ⟨by (try simp only [l]); exact rP c.out⟩, ⟨by (try simp only [l]); exact rP j.out⟩, ⟨by (try simp only [l]); exact rP q.out⟩, ⟨by (try simp only [l]); exact bP a.out⟩, ⟨bW⟩⟩
            rw [if_pos a1] at H
            have df := dT a1
            clear a1
            obtain ⟨cD, bZ⟩ := nm ((B.set (d : Int).toNat (z.length : Int)) : List Int)
            rw [← bZ.out] at H
            by_cases b0 : z.length < 17592186044416; rotate_left
            ·rw [if_neg b0] at H
             exact absurd H (by simp)
            rw [if_pos b0] at H
            have dg := mA b0
            clear b0
            obtain ⟨dW, b1⟩ := nm ((z ++ [d]) : List Int)
            rw [← b1.out] at H
            have H' := mA H
            clear H
            have av : 0 ≤ (d : Int) := ofD
            have aw : d < (B.length : Int) := ofD
            obtain ⟨bg, bz, ab⟩ := zO (zJ j.out).2.2 d av aw
            obtain rfl : (⟨s, 0, none⟩ : Addr) = bg := (by injection bz)
            (first | simp only [Zcm] at ab | simp only [add_at] at ab | simp only [Addr.add, Nat.zero_add] at ab | skip)
            replace av := eq_true av
            replace aw := eq_true aw
            obtain ⟨bB, bC, dX⟩ := zP q.out
            subst dX
            have cE : 0 ≤ (d : Int) := ofD
            have cF : (d : Int) < ((B.length : Int) : Int) := ofD
            obtain ⟨ef, eg⟩ := yF 0 j.out (d : Int) cE cF
            replace cE := eq_true cE
            replace cF := eq_true cF
            have bD := yI j.out (d : Int) (z.length : Int)
            go_wp2_with (first | ((with_reducible refine Zbq (t := 2) (p := 91) rfl ?_); refine Zdg (t := 2) (p := 91) (w1 := (wc.setCell ⟨s, (d : Int).toNat, none⟩ (.int .i64 (z.length : Int)))) ?_; intro cG hw; have hg : wc.grownBy cG (some s) := (by rw [hw]; exact bD.2); have hp_ : Kd.R (Kd.int .i64) 2 cG w.heap.size (fun k_ => some k_ ≠ (.slice (some U) m.length O : Value).ownBlock ∧ some k_ ≠ (.slice bB z.length bC : Value).ownBlock) (.slice (some ⟨s, 0, none⟩) B.length G) cD := (by rw [hw, bZ.out]; exact bD.1); clear bD; replace c := mA (zR (v := (.slice (some ⟨s, 0, none⟩) B.length G)) (v1 := (.slice (some ⟨s, 0, none⟩) B.length G)) (ok := (fun k_ => some k_ ≠ (.slice bB z.length bC : Value).ownBlock)) (by (with_reducible repeat (first | apply zC | apply zD | apply zA)); exact zB c.out (fun _ hk => ⟨hk.2, hk.1⟩)) hg (.inl rfl)); replace q := mA (zR (v := (.slice (some ⟨s, 0, none⟩) B.length G)) (v1 := (.slice (some ⟨s, 0, none⟩) B.length G)) (ok := (fun k_ => some k_ ≠ (.slice (some U) m.length O : Value).ownBlock)) (rP q.out) hg (.inl rfl)); replace a := mA (Zah (g := D) (o := .cells #[.int .i64 A, .slice I u.length J, .slice M x.length L] 66 (0, 0)) (bP a.out) hg (zN j.out a.out (by decide))); replace j := mA (hp_); replace HB := mA ((by rw [hw]; exact Za9 (HB.out) aV.out : Below w.heap.size w cG)); clear hg hw hp_) | ((with_reducible refine Za6 (b := .append) (xs := #[.tmp 92, .tmp 94]) rfl ?_); at_builtin; refine yO (Kd.int .i64) (w0 := w) w.heap.size rfl (.tmp 92) (.tmp 94) 22 2 (.int .i64 0) 8 rfl Tryd.underlying22 Zci rfl (by decide) (by omega) (.slice bB z.length bC) z d [.int .i64 d] (fun k_ => some k_ ≠ (.slice (some U) m.length O : Value).ownBlock ∧ some k_ ≠ (.slice (some ⟨s, 0, none⟩) B.length G : Value).ownBlock) (fun _ => False) rfl rfl ?aP (fun _ hk => hk.elim) ?aF ?aO ?aB ?aS ?aL ?_; (case aP => exact rfl); (case aB => exact (bW)); (case aF => exact (fun k_ hk => ⟨zT (zI (rP c.out)) k_ hk, zT (zI (rP j.out)) k_ hk⟩)); (case aO => exact (rP q.out)); (case aS => exact (Zaj (bW))); (case aL => have := dg.out; omega); intro eZ e5 ho hb hg hat; rw [← b1.out] at ho; replace c := mA (zR (ok := (fun k_ => some k_ ≠ (.slice (some ⟨s, 0, none⟩) B.length G : Value).ownBlock)) (by (with_reducible repeat (first | apply zC | apply zD | apply zA)); exact zB c.out (fun _ hk => ⟨hk.2, hk.1⟩)) hg hat); replace j := mA (zR (ok := (fun k_ => some k_ ≠ (.slice (some U) m.length O : Value).ownBlock)) (rP j.out) hg hat); replace a := mA (Zah (g := D) (o := .cells #[.int .i64 A, .slice I u.length J, .slice M x.length L] 66 (0, 0)) (bP a.out) hg (zN q.out a.out (by decide))); replace HB := mA (hb); have dh := mA (ho); clear q ho hb hg hat))
            (try simp only [← l])
            go_roundg aH
            case measure => have := W.out; have := af.out; have := ag.out; have := an.out; have := al.out; omega
            case rel => exact ⟨(cD), (dW), (wrap64 (d + 1)), (eW), H', ⟨by have := W.out; have := af.out; have := ag.out; have := an.out; have := al.out; omega⟩, ⟨by (try simp only [l]); exact rP c.out⟩, ⟨by (try simp only [l]); exact rP j.out⟩, ⟨by (try simp only [l]); exact rP dh.out⟩, ⟨by (try simp only [l]); exact bP a.out⟩, ⟨bW⟩⟩
           subst bY
           rw [if_pos rfl] at H
           obtain ⟨er, H⟩ := gE H
           obtain ⟨di, H⟩ := gE H
           (try (have dj := di; simp only [l] at dj))
           obtain ⟨dY, dp, H⟩ := bA H
           by_cases b2 : dY = true; rotate_left
           ·replace b2 := Bool.eq_false_iff.mpr b2
            subst b2
            rw [iF] at H
            have H' := mA H
            clear H
            try go_wp2
            replace c := mA (zA c.out)
            replace j := mA (zA j.out)
            replace q := mA (zA q.out)
            replace a := mA (Zaa a.out)
            replace HB := mA (Za1 HB.out)
            obtain ⟨e0, e1, cH⟩ := zP q.out
            (first | subst cH | (injection cH with bk cI bl; have cJ := bk.symm; have cK := bl.symm; clear bk cI bl; subst cJ; subst cK))
            have ax : 0 ≤ (E : Int) := ofD
            have ay : E < (z.length : Int) := ofD
            obtain ⟨aD, bE, ah⟩ := zO (zJ q.out).2.2 E ax ay
            cases bE
            replace ax := eq_true ax
            replace ay := eq_true ay
            refine Zck (n := 8) (S := fun w' => w'.cell? ⟨D, 0, none⟩ = some (.int .i64 A) ∧ w'.cell? ⟨D, 1, none⟩ = some (.slice I u.length J) ∧ w'.cell? ⟨D, 2, none⟩ = some (.slice M x.length L) ∧ w'.cell? (aD.add (E).toNat) = some (.int .i64 (rd z E))) (ds := []) #[false, false, false, false, false, false, false, false] (by kernel_rfl) rfl rfl ⟨bc a 0, bc a 1, bc a 2, ah⟩ (fun hHeld => ?_); refine Zb5 Zaq.tab21 Zaq.bits21 (fun HT_ HW_ => ?_)
            generalize wc.drew = w69 at c j q a HB ah hHeld ⊢
            refine Zas (i := 1) (N := some 71) (Zap HT_.out (by kernel_rfl)) ?_
            refine Zas (i := 2) (N := some 72) (Zap HT_.out (by kernel_rfl)) ?_
            refine Zas (i := 3) (N := some 73) (Zap HT_.out (by kernel_rfl)) ?_
            refine Zas (i := 4) (N := some 74) (Zap HT_.out (by kernel_rfl)) ?_
            refine Zas (i := 5) (N := some 75) (Zap HT_.out (by kernel_rfl)) ?_
            refine Zbg (i := 0) (N := some 70) (Za0 HT_.out HW_.out (by kernel_rfl)) hHeld ?_
            refine Zbg (i := 6) (N := some 76) (Za0 HT_.out HW_.out (by kernel_rfl)) hHeld ?_
            refine one_ (i := 7) (N := some 77) #[true, true, true, true, true, true, true, true] rfl rfl (Zbe HT_.out (by kernel_rfl)) (by decide) (fun K hK => ?_)
            refine goes_ Tryd.func140 (by kernel_rfl) rfl #[.agg #[.int .i64 A, .slice I u.length J, .slice M x.length L], .slice (some U) m.length O, .int .i64 d, .int .i64 (rd z E)] (by rfl) rfl rfl (by (try simp only [List.map_toArray, List.map_cons, List.map_nil]); first | done | rfl | (simp only [List.length_drop, List.length_take]; rfl)) ?_
            with_reducible refine (Zbx.calls aH A _ _ u _ _ x _ _ m d (rd z E) false _ ?side1 ?side2 ?side3 ?side4 ?side5 ?side6 dp.out).mono ?_
            (case side1 => exact cP (zQ a2.out HB.out))
            (case side2 => exact a3.out)
            (case side3 => exact cP (zQ az.out HB.out))
            (case side4 => exact a4.out)
            (case side5 => exact cP ((zJ c.out).2.2))
            (case side6 => exact (zJ c.out).2.1)
            rintro e e6 ⟨rfl, hb⟩
            have bF := (hb.cell (World.block_lt_of_cell? _ _ (hHeld.2.2.2))).trans (hHeld.2.2.2)
            refine ⟨_, rfl, ?_⟩
            replace c := mA (zK (rP c.out) hb)
            replace j := mA (zK (rP j.out) hb)
            replace q := mA (zK (rP q.out) hb)
            replace a := mA (blkB a.out hb)
            replace HB := mA (Zaf (bW) hb)
            (try clear hb)
            (try clear hb2)
            (try clear hk)
            (try clear hi)
            refine hK.out _ _ ⟨bc a 0, bc a 1, bc a 2, bF⟩ (fun hHeld => ?_)
            clear hK K
            refine putS 77 ?_
            refine done_ (Zcs HT_.out (by kernel_rfl)) ?_
            try go_wp2
            (try simp only [← l])
            go_roundg aH
            case measure => have := W.out; have := af.out; have := ag.out; have := an.out; have := al.out; omega
            case rel => exact ⟨(B), (wrap64 (E + 1)), (eW), H', ⟨by have := W.out; have := af.out; have := ag.out; have := an.out; have := al.out; omega⟩, ⟨by (try simp only [l]); exact rP c.out⟩, ⟨by (try simp only [l]); exact rP j.out⟩, ⟨by (try simp only [l]); exact rP q.out⟩, ⟨by (try simp only [l]); exact bP a.out⟩, ⟨bW⟩⟩
           subst b2
           rw [if_pos rfl] at H
           obtain ⟨es, H⟩ := gE H
           obtain ⟨dk, H⟩ := gE H
           (try (have dl := dk; simp only [l] at dl))
           obtain ⟨cL, b3⟩ := nm ((B.set (d : Int).toNat E) : List Int)
           rw [← b3.out] at H
           have H' := mA H
           clear H
           try go_wp2
           replace c := mA (zA c.out)
           replace j := mA (zA j.out)
           replace q := mA (zA q.out)
           replace a := mA (Zaa a.out)
           replace HB := mA (Za1 HB.out)
           obtain ⟨e2, cM, cN⟩ := zP q.out
           (first | subst cN | (injection cN with bk cI bl; have cJ := bk.symm; have cK := bl.symm; clear bk cI bl; subst cJ; subst cK))
           have ax : 0 ≤ (E : Int) := ofD
           have ay : E < (z.length : Int) := ofD
           obtain ⟨aD, bE, ah⟩ := zO (zJ q.out).2.2 E ax ay
           cases bE
           replace ax := eq_true ax
           replace ay := eq_true ay
           refine Zck (n := 8) (S := fun w' => w'.cell? ⟨D, 0, none⟩ = some (.int .i64 A) ∧ w'.cell? ⟨D, 1, none⟩ = some (.slice I u.length J) ∧ w'.cell? ⟨D, 2, none⟩ = some (.slice M x.length L) ∧ w'.cell? (aD.add (E).toNat) = some (.int .i64 (rd z E))) (ds := []) #[false, false, false, false, false, false, false, false] (by kernel_rfl) rfl rfl ⟨bc a 0, bc a 1, bc a 2, ah⟩ (fun hHeld => ?_); refine Zb5 Zaq.tab21 Zaq.bits21 (fun HT_ HW_ => ?_)
           generalize wc.drew = w64 at c j q a HB ah hHeld ⊢
           refine Zas (i := 1) (N := some 71) (Zap HT_.out (by kernel_rfl)) ?_
           refine Zas (i := 2) (N := some 72) (Zap HT_.out (by kernel_rfl)) ?_
           refine Zas (i := 3) (N := some 73) (Zap HT_.out (by kernel_rfl)) ?_
           refine Zas (i := 4) (N := some 74) (Zap HT_.out (by kernel_rfl)) ?_
           refine Zas (i := 5) (N := some 75) (Zap HT_.out (by kernel_rfl)) ?_
           refine Zbg (i := 0) (N := some 70) (Za0 HT_.out HW_.out (by kernel_rfl)) hHeld ?_
           refine Zbg (i := 6) (N := some 76) (Za0 HT_.out HW_.out (by kernel_rfl)) hHeld ?_
           refine one_ (i := 7) (N := some 77) #[true, true, true, true, true, true, true, true] rfl rfl (Zbe HT_.out (by kernel_rfl)) (by decide) (fun K hK => ?_)
           refine goes_ Tryd.func140 (by kernel_rfl) rfl #[.agg #[.int .i64 A, .slice I u.length J, .slice M x.length L], .slice (some U) m.length O, .int .i64 d, .int .i64 (rd z E)] (by rfl) rfl rfl (by (try simp only [List.map_toArray, List.map_cons, List.map_nil]); first | done | rfl | (simp only [List.length_drop, List.length_take]; rfl)) ?_
           with_reducible refine (Zbx.calls aH A _ _ u _ _ x _ _ m d (rd z E) true _ ?side1 ?side2 ?side3 ?side4 ?side5 ?side6 dp.out).mono ?_
           (case side1 => exact cP (zQ a2.out HB.out))
           (case side2 => exact a3.out)
           (case side3 => exact cP (zQ az.out HB.out))
           (case side4 => exact a4.out)
           (case side5 => exact cP ((zJ c.out).2.2))
           (case side6 => exact (zJ c.out).2.1)
           rintro e dq ⟨rfl, hb⟩
           have bF := (hb.cell (World.block_lt_of_cell? _ _ (hHeld.2.2.2))).trans (hHeld.2.2.2)
           refine ⟨_, rfl, ?_⟩
           replace c := mA (zK (rP c.out) hb)
           replace j := mA (zK (rP j.out) hb)
           replace q := mA (zK (rP q.out) hb)
           replace a := mA (blkB a.out hb)
           replace HB := mA (Zaf (bW) hb)
           (try clear hb)
           (try clear hb2)
           (try clear hk)
           (try clear hi)
           refine hK.out _ _ ⟨bc a 0, bc a 1, bc a 2, bF⟩ (fun hHeld => ?_)
           clear hK K
           refine putS 77 ?_
           refine done_ (Zcs HT_.out (by kernel_rfl)) ?_
           have cO : 0 ≤ (d : Int) := ofD
           have cQ : (d : Int) < ((B.length : Int) : Int) := ofD
           obtain ⟨eh, ei⟩ := yF 0 j.out (d : Int) cO cQ
           replace cO := eq_true cO
           replace cQ := eq_true cQ
           obtain ⟨et, eu⟩ := yF 0 j.out (d : Int) (ofD) (ofD)
           have bG := yI j.out (d : Int) E
           try go_wp2_with (first | ((with_reducible refine Zbq (t := 2) (p := 81) rfl ?_); refine Zdg (t := 2) (p := 81) (w1 := (dq.setCell ⟨s, (d : Int).toNat, none⟩ (.int .i64 E))) ?_; intro cR hw; have hg : dq.grownBy cR (some s) := (by rw [hw]; exact bG.2); have hp_ : Kd.R (Kd.int .i64) 2 cR w.heap.size (fun k_ => some k_ ≠ (.slice (some U) m.length O : Value).ownBlock ∧ some k_ ≠ (.slice (some aD) z.length cM : Value).ownBlock) (.slice (some ⟨s, 0, none⟩) B.length G) cL := (by rw [hw, b3.out]; exact bG.1); clear bG; replace c := mA (zR (v := (.slice (some ⟨s, 0, none⟩) B.length G)) (v1 := (.slice (some ⟨s, 0, none⟩) B.length G)) (ok := (fun k_ => some k_ ≠ (.slice (some aD) z.length cM : Value).ownBlock)) (by (with_reducible repeat (first | apply zC | apply zD | apply zA)); exact zB c.out (fun _ hk => ⟨hk.2, hk.1⟩)) hg (.inl rfl)); replace q := mA (zR (v := (.slice (some ⟨s, 0, none⟩) B.length G)) (v1 := (.slice (some ⟨s, 0, none⟩) B.length G)) (ok := (fun k_ => some k_ ≠ (.slice (some U) m.length O : Value).ownBlock)) (rP q.out) hg (.inl rfl)); replace a := mA (Zah (g := D) (o := .cells #[.int .i64 A, .slice I u.length J, .slice M x.length L] 66 (0, 0)) (bP a.out) hg (zN j.out a.out (by decide))); replace j := mA (hp_); replace HB := mA ((by rw [hw]; exact Za9 (HB.out) aV.out : Below w.heap.size w cR)); clear hg hw hp_))
           (try simp only [← l])
           go_roundg aH
           case measure => have := W.out; have := af.out; have := ag.out; have := an.out; have := al.out; omega
           case rel => exact ⟨(cL), (wrap64 (E + 1)), (eW), H', ⟨by have := W.out; have := af.out; have := ag.out; have := an.out; have := al.out; omega⟩, ⟨by (try simp only [l]); (with_reducible repeat (first | apply zC | apply zD | apply zA)); exact zB c.out (fun _ hk => ⟨hk.2, hk.1⟩)⟩, ⟨by (try simp only [l]); exact rP j.out⟩, ⟨by (try simp only [l]); exact rP q.out⟩, ⟨by (try simp only [l]); exact bP a.out⟩, ⟨bW⟩⟩
end Go.Proofs.YtjdkedmdeajmgaaDoor.P
end M0
