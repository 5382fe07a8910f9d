import Derived.Test.YtgindgodfcfgkaaDoorCFnExactLettersCommute5
section M0
namespace Go.Proofs.YtgindgodfcfgkaaDoor.P
open Go.RowKit Go.Proofs.YtgindgodfcfgkaaDoor.Sh Go.Proofs.YtgindgodfcfgkaaDoorW.PrintWords Go.Proofs.YtgindgodfcfgkaaDoorW.PrintLast Go.Proofs.YtgindgodfcfgkaaDoorW.PrintMore
open Kd
attribute [local go_sem] Zcd Zca Zcn Zcm Zb1 Zb2 Zcc Zce   -- for this text's walks alone
set_option linter.unusedVariables false
set_option linter.unusedSimpArgs false
mutual
def Zao.l0 : Nat → List Bool → List Int → Int → Int → List (List Int) → List Bool → Option (List Int)
 | 0, _, _, _, _, _, _ => none
 | k + 1, x3, x4, x5, b, c, a => if x5 < (x4.length : Int) then (if 0 ≤ x5 then (if x5 < (x3.length : Int) then (if rdOf false x3 x5 = true then (if x5 < (a.length : Int) then (if rdOf false a x5 = true then (Zao.l0 k x3 (x4.set (x5 : Int).toNat 1) (wrap64 (x5 + 1)) b c a) else (Zao.l0 k x3 x4 (wrap64 (x5 + 1)) b c a)) else (none)) else (Zao.l0 k x3 (x4.set (x5 : Int).toNat (-1)) (wrap64 (x5 + 1)) b c a)) else (none)) else (none)) else (Zao.l1 k x4 (-1) b c a)
def Zao.l1 : Nat → List Int → Int → Int → List (List Int) → List Bool → Option (List Int)
 | 0, _, _, _, _, _ => none
 | k + 1, x4, x6, a, b, c => if 0 ≤ (x4.length : Int) then (if ((x4.length : Int) : Int).toNat ≤ 35184372088832 then (Zao.l2 k x4 x6 (List.replicate ((x4.length : Int) : Int).toNat 0) (([] : List Int)) 0 a b c) else (none)) else (none)
def Zao.l2 : Nat → List Int → Int → List Int → List Int → Int → Int → List (List Int) → List Bool → Option (List Int)
 | 0, _, _, _, _, _, _, _, _ => none
 | k + 1, x4, x6, x7, x8, x9, a, b, c => if x9 < (x4.length : Int) then (if 0 ≤ x9 then (if x9 < (x7.length : Int) then ((some (x7.set (x9 : Int).toNat (-1) : List Int)).bind fun d => (if (rd x4 x9) < 0 then (Zao.l2 k x4 x6 d x8 (wrap64 (x9 + 1)) a b c) else (Zao.l3 k x4 x6 d x8 x9 0 a b c))) else (none)) else (none)) else (if (x8.length : Int) = x6 then (some x7) else (Zao.l1 k x7 (x8.length : Int) a b c))
def Zao.l3 : Nat → List Int → Int → List Int → List Int → Int → Int → Int → List (List Int) → List Bool → Option (List Int)
 | 0, _, _, _, _, _, _, _, _, _ => none
 | k + 1, x4, x6, x7, x8, x9, d, a, b, c => if d < (x8.length : Int) then (if 0 ≤ x9 then (if x9 < (x7.length : Int) then (Zao.j4 k x4 x6 x7 x8 x9 d (decide ((rd x7 x9) < 0)) a b c) else (none)) else (none)) else (Zao.j4 k x4 x6 x7 x8 x9 d false a b c)
def Zao.j4 : Nat → List Int → Int → List Int → List Int → Int → Int → Bool → Int → List (List Int) → List Bool → Option (List Int)
 | 0, _, _, _, _, _, _, _, _, _, _ => none
 | k + 1, x4, x6, x7, x8, x9, d, g, a, b, c => if g = true then (if 0 ≤ d then (if d < (x8.length : Int) then ((Zb0.f k a b c x4 x9 (rd x8 d)).bind fun e => (if e = true then (if 0 ≤ x9 then (if x9 < (x7.length : Int) then (Zao.l3 k x4 x6 (x7.set (x9 : Int).toNat d) x8 x9 (wrap64 (d + 1)) a b c) else (none)) else (none)) else (Zao.l3 k x4 x6 x7 x8 x9 (wrap64 (d + 1)) a b c))) else (none)) else (none)) else (if 0 ≤ x9 then (if x9 < (x7.length : Int) then (if (rd x7 x9) < 0 then (if x8.length < 17592186044416 then (Zao.l2 k x4 x6 (x7.set (x9 : Int).toNat (x8.length : Int)) (x8 ++ [x9]) (wrap64 (x9 + 1)) a b c) else (none)) else (Zao.l2 k x4 x6 x7 x8 (wrap64 (x9 + 1)) a b c)) else (none)) else (none))
end
def Zao.f (k : Nat) (b : Int) (a : List (List Int)) (c : List Bool) : Option (List Int) := (Za1.f k b a c).bind fun d => (if 0 ≤ (a.length : Int) then (if ((a.length : Int) : Int).toNat ≤ 35184372088832 then (Zao.l0 k d (List.replicate ((a.length : Int) : Int).toNat 0) 0 b a c) else (none)) else (none))
def Zao.T21 : Bool × List (List Nat × List Nat) := (true, [([], []), ([], []), ([], []), ([], []), ([], []), ([3, 4], [3, 4]), ([5], [5]), ([0, 1, 2, 6], [0, 1, 2, 6])])
def Zao.B21 : List Nat := [0, 0, 0, 0, 0, 24, 56, 127]
theorem Zao.tab21 : rtab .any (opsOf Tryd.f68 21) = Zao.T21 := by kernel_rfl
theorem Zao.bits21 : Zc0 Zao.T21.2 Zao.B21 = true := by kernel_rfl
set_option maxHeartbeats 8000000 in
set_option maxRecDepth 100000 in
theorem Zao.calls (k : Nat) (D : Int) (I : Option Addr) (J : Nat) (u : List (List Int)) (M : Option Addr) (L : Nat) (y : List Bool) (r : List Int) (w : World) (bO : Kd.C (Kd.slice 2 (Kd.int .i64)) w I u.length u) (bQ : u.length ≤ J) (bR : Kd.C Kd.bool w M y.length y) (bS : y.length ≤ L) (h : Zao.f k D u y = some r) :
  Calls Tryd.prog 68 #[.agg #[.int .i64 D, .slice I u.length J, .slice M y.length L]] w fun e w' => ∃ dM : Value, e = .returned (dM) ∧ Kd.R (Kd.int .i64) 2 w' w.heap.size (fun _ => True) dM r ∧ Below w.heap.size w w' := by
 have eU := Tryd.underlying69
 have a2 := mA bO
 have a3 := mA bQ
 clear bO bQ
 have ay := mA bR
 have a4 := mA bS
 clear bR bS
 have HB := mA (Below.refl w.heap.size w)
 unfold Zao.f at h
 have H := h
 clear h
 replace H := bE H
 obtain ⟨aj, dN, H⟩ := H
 have A2 := mA dN
 clear dN
 by_cases c3 : 0 ≤ (u.length : Int); rotate_left
 ·rw [if_neg c3] at H
  exact absurd H (by simp)
 rw [if_pos c3] at H
 have dR := eq_true c3
 have dS := dT c3
 clear c3
 by_cases c4 : ((u.length : Int) : Int).toNat ≤ 35184372088832; rotate_left
 ·rw [if_neg c4] at H
  exact absurd H (by simp)
 rw [if_pos c4] at H
 have dU := eq_true c4
 have dV := dT c4
 clear c4
 obtain ⟨dW, a5⟩ : ∃ y_ : List Int, y_ = (List.replicate ((u.length : Int) : Int).toNat 0) := ⟨_, rfl⟩
 rw [← a5] at H
 have bT := mA a5
 clear a5
 have H' := mA H
 clear H
 go_enter Tryd.func68, Tryd.ntmps68
 go_wp2_with (first | ((with_reducible refine Zap (N := 1) rfl ?_); refine boxS (N := 1) (cs := #[.int .i64 D, .slice I u.length J, .slice M y.length L]) (t := 69) ?_; intro E hg w5 hbox hb; have a := mA (hbox); have eJ := geW (w := w) hg; have eK := geW (w := w) hg; replace HB := mA (Zac (bW) hb); clear hb hbox hg; obtain ⟨cm, cn, co⟩ := cells3 a.out; obtain ⟨cp, cq, cr⟩ := frz3 a.out) | ((with_reducible refine Zav (f := 80) rfl ?_); refine Zbo (some 12) Tryd.func80 #[.agg #[.int .i64 D, .slice I u.length J, .slice M y.length L]] ?_; (with_reducible refine (Za1.calls k D _ _ u _ _ y aj _ ?side1 ?side2 ?side3 ?side4 A2.out).mono ?_); (case side1 => exact cP (zF a2.out HB.out)); (case side2 => exact a3.out); (case side3 => exact cP (zF ay.out HB.out)); (case side4 => exact a4.out); rintro e w7 ⟨dX, rfl, dO, hb⟩; refine ⟨_, rfl, ?_⟩; have a6 := mA (zP dO (Zag (bW))); replace a := mA (blkB a.out hb); replace HB := mA (Zac (bW) hb); (try clear hb); (try clear hb2); (try clear hk); (try clear hi); (try clear dO); obtain ⟨ct, cu, cv⟩ := cells3 a.out; obtain ⟨cw, cx, cy⟩ := frz3 a.out) | ((with_reducible refine Zap (N := 16) rfl ?_); refine xO (Kd.int .i64) _ 2 rfl (N := 16) rfl 22 _ _ rfl (u.length : Int) rfl rfl Tryd.underlying22 (.int .i64 0) 8 info2 rfl (by decide) (by omega) 0 (ok := fun _ => True) (okp := fun _ => True) rfl (fun _ hk => hk) trivial (ofD) (Nat.le_trans (Nat.mul_le_mul_right _ (ofD : (u.length : Int).toNat ≤ 35184372088832)) (by omega)) (Below.refl _ _) (Nat.le_refl _) ?_; intro dY w9 aM hb hg_ hnew_; clear hg_ hnew_; (first | rw [← bT.out] at aM | (simp only [Int.reduceToNat] at aM; rw [← bT.out] at aM)); replace a6 := mA (zK (rP a6.out) hb); have di := mA (zP aM (Zag (bW))); replace a := mA (blkB a.out hb); replace HB := mA (Zac (bW) hb); clear hb aM))
 go_loopg [5] k (fun kq v5 w' => ∃ (X : List Int) (x : Int), v5 = .int .i64 x ∧ Zaa (Zao.l0 kq aj X x D u y = some r) ∧ Zaa (kq ≤ k) ∧ Zaa (Kd.R Kd.bool 4 w' w.heap.size (fun _ => True) dX aj) ∧ Zaa (Kd.R (Kd.int .i64) 2 w' w.heap.size (fun _ => True) dY X) ∧ Zaa (w'.heap[E]? = some (.cells #[.int .i64 D, (.slice I u.length J), (.slice M y.length L)] 69 (0, 0))) ∧ Zaa (Below w.heap.size w w'))
 case atStart => exact ⟨(dW), (0), (eW), H', ⟨Nat.le_refl _⟩, ⟨rP a6.out⟩, ⟨rP di.out⟩, ⟨bP a.out⟩, ⟨bW⟩⟩
 case round =>
  clear H' dR dS dU dV cm cn co ct cu cv cp cq cr cw cx cy
  obtain ⟨X, x, rfl, HA, W, Y, c, a, HB⟩ := hrel
  cases gk with
  | zero => exact absurd HA.out (by simp [Zao.l0])
  | succ k1 =>
   have H := HA.out
   clear HA
   simp only [Zao.l0] at H
   by_cases aW : x < (X.length : Int)
   ·rw [if_pos aW] at H
    have bU := dT aW
    clear aW
    by_cases bV : 0 ≤ x; rotate_left
    ·rw [if_neg bV] at H
     exact absurd H (by simp)
    rw [if_pos bV] at H
    have eL := dT bV
    clear bV
    by_cases bX : x < (aj.length : Int); rotate_left
    ·rw [if_neg bX] at H
     exact absurd H (by simp)
    rw [if_pos bX] at H
    have eM := dT bX
    clear bX
    obtain ⟨dZ, a7⟩ : ∃ b_ : Bool, b_ = (rdOf false aj x) := ⟨_, rfl⟩
    rw [← a7] at H
    have az := mA a7
    clear a7
    by_cases bY : dZ = true; rotate_left
    ·replace bY := Bool.eq_false_iff.mpr bY
     subst bY
     rw [iF] at H
     obtain ⟨cz, a8⟩ : ∃ y_ : List Int, y_ = (X.set (x : Int).toNat (-1)) := ⟨_, rfl⟩
     rw [← a8] at H
     have dj := mA a8
     clear a8
     have H' := mA H
     clear H
     obtain ⟨eV, cA, d0⟩ := zJ c.out
     subst d0
     obtain ⟨eX, eY, d1⟩ := zJ Y.out
     subst d1
     have ad : 0 ≤ (x : Int) := ofD
     have ae : x < (aj.length : Int) := ofD
     obtain ⟨bZ, aN, aa⟩ := yF (zE Y.out).2.2 x ad ae
     (try rw [← az.out] at aa)
     cases aN
     replace ad := eq_true ad
     replace ae := eq_true ae
     have cB : 0 ≤ (x : Int) := ofD
     have cC : (x : Int) < ((X.length : Int) : Int) := ofD
     obtain ⟨a9, eZ, cD, cE, d2, e0, cF⟩ := yV c.out (by omega)
     (first | cases cD | (injection cD with ea_ en_ ec_; (first | subst ea_ | (injection ea_ with ea_; subst ea_)); subst ec_; clear en_))
     have d3 := mA cE
     have e1 := mA cF
     clear cE d2 cF
     obtain ⟨eB, eC⟩ := yH 0 c.out (x : Int) cB cC
     replace cB := eq_true cB
     replace cC := eq_true cC
     have bu := yN c.out (x : Int) (-1)
     go_wp2_with (first | ((with_reducible refine Zbp (t := 2) (p := 30) rfl ?_); refine Zdi (t := 2) (p := 30) (w1 := (wr.setCell ⟨a9, (x : Int).toNat, none⟩ (.int .i64 (-1)))) ?_; intro cG hw; have hg : wr.grownBy cG (some a9) := (by rw [hw]; exact bu.2); have hp_ : Kd.R (Kd.int .i64) 2 cG w.heap.size (fun _ => True) (.slice (some ⟨a9, 0, none⟩) X.length cA) cz := (by rw [hw, dj.out]; exact bu.1); clear bu; replace Y := mA (yM (v := (.slice (some ⟨a9, 0, none⟩) X.length cA)) (rP Y.out) (yU c.out) (by decide) hg); replace a := mA (Zaq (g := E) (o := .cells #[.int .i64 D, .slice I u.length J, .slice M y.length L] 69 (0, 0)) (bP a.out) hg (zO c.out a.out (by decide))); replace c := mA (hp_); replace HB := mA ((by rw [hw]; exact Zbs (HB.out) d3.out : Below w.heap.size w cG)); clear hg hw hp_))
     go_roundg k1
     case measure => have := W.out; omega
     case rel => exact ⟨(cz), (wrap64 (x + 1)), (eW), H', ⟨by have := W.out; omega⟩, ⟨rP Y.out⟩, ⟨rP c.out⟩, ⟨bP a.out⟩, ⟨bW⟩⟩
    subst bY
    rw [if_pos rfl] at H
    by_cases b0 : x < (y.length : Int); rotate_left
    ·rw [if_neg b0] at H
     exact absurd H (by simp)
    rw [if_pos b0] at H
    have eN := dT b0
    clear b0
    obtain ⟨d4, ba⟩ : ∃ b_ : Bool, b_ = (rdOf false y x) := ⟨_, rfl⟩
    rw [← ba] at H
    have aJ := mA ba
    clear ba
    by_cases b1 : d4 = true; rotate_left
    ·replace b1 := Bool.eq_false_iff.mpr b1
     subst b1
     rw [iF] at H
     have H' := mA H
     clear H
     obtain ⟨e2, e3, d5⟩ := zJ c.out
     subst d5
     obtain ⟨e4, e5, d6⟩ := zJ Y.out
     subst d6
     have ad : 0 ≤ (x : Int) := ofD
     have ae : x < (aj.length : Int) := ofD
     obtain ⟨bZ, aN, aa⟩ := yF (zE Y.out).2.2 x ad ae
     (try rw [← az.out] at aa)
     (try rw [← aJ.out] at aa)
     cases aN
     replace ad := eq_true ad
     replace ae := eq_true ae
     have en : wr.cell? ⟨E, 0, none⟩ = some (.int .i64 D) := bc a 0
     have eo : wr.cell? ⟨E, 1, none⟩ = some (.slice I u.length J) := bc a 1
     have ep : wr.cell? ⟨E, 2, none⟩ = some (.slice M y.length L) := bc a 2
     have er := Zab a.out 0
     have es := Zab a.out 1
     have et := Zab a.out 2
     have ao : 0 ≤ (x : Int) := ofD
     have ap : x < (y.length : Int) := ofD
     obtain ⟨b2, bv, T⟩ := yF ay.out x ao ap
     (try rw [← az.out] at T)
     (try rw [← aJ.out] at T)
     cases bv
     replace T := (HB.out.cell (wB w T)).trans T
     replace ao := eq_true ao
     replace ap := eq_true ap
     go_wp2
     go_roundg k1
     case measure => have := W.out; omega
     case rel => exact ⟨(X), (wrap64 (x + 1)), (eW), H', ⟨by have := W.out; omega⟩, ⟨rP Y.out⟩, ⟨rP c.out⟩, ⟨bP a.out⟩, ⟨bW⟩⟩
    subst b1
    rw [if_pos rfl] at H
    obtain ⟨cH, bb⟩ : ∃ y_ : List Int, y_ = (X.set (x : Int).toNat 1) := ⟨_, rfl⟩
    rw [← bb] at H
    have dk := mA bb
    clear bb
    have H' := mA H
    clear H
    obtain ⟨e6, cI, d7⟩ := zJ c.out
    subst d7
    obtain ⟨e7, e8, d8⟩ := zJ Y.out
    subst d8
    have ad : 0 ≤ (x : Int) := ofD
    have ae : x < (aj.length : Int) := ofD
    obtain ⟨bZ, aN, aa⟩ := yF (zE Y.out).2.2 x ad ae
    (try rw [← az.out] at aa)
    (try rw [← aJ.out] at aa)
    cases aN
    replace ad := eq_true ad
    replace ae := eq_true ae
    have eu : wr.cell? ⟨E, 0, none⟩ = some (.int .i64 D) := bc a 0
    have ev : wr.cell? ⟨E, 1, none⟩ = some (.slice I u.length J) := bc a 1
    have ew : wr.cell? ⟨E, 2, none⟩ = some (.slice M y.length L) := bc a 2
    have ey := Zab a.out 0
    have ez := Zab a.out 1
    have eA := Zab a.out 2
    have ao : 0 ≤ (x : Int) := ofD
    have ap : x < (y.length : Int) := ofD
    obtain ⟨b2, bv, T⟩ := yF ay.out x ao ap
    (try rw [← az.out] at T)
    (try rw [← aJ.out] at T)
    cases bv
    replace T := (HB.out.cell (wB w T)).trans T
    replace ao := eq_true ao
    replace ap := eq_true ap
    have cJ : 0 ≤ (x : Int) := ofD
    have cK : (x : Int) < ((X.length : Int) : Int) := ofD
    obtain ⟨bd, e9, cL, cM, d9, fa, cN⟩ := yV c.out (by omega)
    (first | cases cL | (injection cL with ea_ en_ ec_; (first | subst ea_ | (injection ea_ with ea_; subst ea_)); subst ec_; clear en_))
    have ea := mA cM
    have fb := mA cN
    clear cM d9 cN
    obtain ⟨eD, eE⟩ := yH 0 c.out (x : Int) cJ cK
    replace cJ := eq_true cJ
    replace cK := eq_true cK
    have bw := yN c.out (x : Int) 1
    go_wp2_with (first | ((with_reducible refine Zbp (t := 2) (p := 38) rfl ?_); refine Zdi (t := 2) (p := 38) (w1 := (wr.setCell ⟨bd, (x : Int).toNat, none⟩ (.int .i64 1))) ?_; intro cO hw; have hg : wr.grownBy cO (some bd) := (by rw [hw]; exact bw.2); have hp_ : Kd.R (Kd.int .i64) 2 cO w.heap.size (fun _ => True) (.slice (some ⟨bd, 0, none⟩) X.length cI) cH := (by rw [hw, dk.out]; exact bw.1); clear bw; replace Y := mA (yM (v := (.slice (some ⟨bd, 0, none⟩) X.length cI)) (rP Y.out) (yU c.out) (by decide) hg); replace a := mA (Zaq (g := E) (o := .cells #[.int .i64 D, .slice I u.length J, .slice (some b2) y.length L] 69 (0, 0)) (bP a.out) hg (zO c.out a.out (by decide))); replace c := mA (hp_); replace HB := mA ((by rw [hw]; exact Zbs (HB.out) ea.out : Below w.heap.size w cO)); clear hg hw hp_))
    go_roundg k1
    case measure => have := W.out; omega
    case rel => exact ⟨(cH), (wrap64 (x + 1)), (eW), H', ⟨by have := W.out; omega⟩, ⟨rP Y.out⟩, ⟨rP c.out⟩, ⟨bP a.out⟩, ⟨bW⟩⟩
   rw [if_neg aW] at H
   have bU := dF aW
   clear aW
   have H' := mA H
   clear H
   obtain ⟨fc, fd, eb⟩ := zJ c.out
   subst eb
   go_wp2
   go_loopg [4, 6] k1 (fun kq v4 v6 w' => ∃ (m : List Int) (ac : Int), v6 = .int .i64 ac ∧ Zaa (Zao.l1 kq m ac D u y = some r) ∧ Zaa (kq ≤ k1) ∧ Zaa (Kd.R (Kd.int .i64) 2 w' w.heap.size (fun _ => True) v4 m) ∧ Zaa (w'.heap[E]? = some (.cells #[.int .i64 D, (.slice I u.length J), (.slice M y.length L)] 69 (0, 0))) ∧ Zaa (Below w.heap.size w w'))
   case atStart => exact ⟨(X), ((-1)), (eW), H', ⟨Nat.le_refl _⟩, ⟨rP c.out⟩, ⟨bP a.out⟩, ⟨bW⟩⟩
   case round =>
    clear H' bU
    obtain ⟨m, ac, rfl, HA, af, c, a, HB⟩ := hrel
    cases gk with
    | zero => exact absurd HA.out (by simp [Zao.l1])
    | succ k2 =>
     have H := HA.out
     clear HA
     simp only [Zao.l1] at H
     by_cases bo : 0 ≤ (m.length : Int); rotate_left
     ·rw [if_neg bo] at H
      exact absurd H (by simp)
     rw [if_pos bo] at H
     have dl := eq_true bo
     have dm := dT bo
     clear bo
     by_cases bp : ((m.length : Int) : Int).toNat ≤ 35184372088832; rotate_left
     ·rw [if_neg bp] at H
      exact absurd H (by simp)
     rw [if_pos bp] at H
     have dn := eq_true bp
     have dp := dT bp
     clear bp
     obtain ⟨cQ, bf⟩ : ∃ y_ : List Int, y_ = (List.replicate ((m.length : Int) : Int).toNat 0) := ⟨_, rfl⟩
     rw [← bf] at H
     have b3 := mA bf
     clear bf
     obtain ⟨cR, bg⟩ : ∃ y_ : List Int, y_ = (([] : List Int)) := ⟨_, rfl⟩
     replace H : (Zao.l2 k2 m ac cQ cR 0 D u y) = some r := by rw [bg]; with_reducible exact H
     have b4 := mA bg
     clear bg
     have H' := mA H
     clear H
     obtain ⟨aq, O, ec⟩ := zJ c.out
     subst ec
     go_wp2_with (first | ((with_reducible refine Zap (N := 41) rfl ?_); refine xO (Kd.int .i64) _ 2 rfl (N := 41) rfl 22 _ _ rfl (m.length : Int) rfl rfl Tryd.underlying22 (.int .i64 0) 8 info2 rfl (by decide) (by omega) 0 (ok := fun _ => True) (okp := fun _ => True) rfl (fun _ hk => hk) trivial (ofD) (Nat.le_trans (Nat.mul_le_mul_right _ (ofD : (m.length : Int).toNat ≤ 35184372088832)) (by omega)) (Below.refl _ _) (Nat.le_refl _) ?_; intro bx fr aD hb hg_ hnew_; clear hg_ hnew_; (first | rw [← b3.out] at aD | (simp only [Int.reduceToNat] at aD; rw [← b3.out] at aD)); have aK := mA (zP (zS aD (zG (rP c.out))) (Zag (bW))); replace c := mA (zR (rP c.out) (zH aD) hb); replace a := mA (blkB a.out hb); replace HB := mA (Zac (bW) hb); clear hb aD) | ((with_reducible refine Zap (N := 42) rfl ?_); refine yT (Kd.int .i64) _ 2 ?hg (N := 42) ?hd (xs := ([] : List Int)) (inner := []) (ok := fun _ => True) (okp := fun _ => True) ?hr ?hp (fun _ hk => hk) trivial (Below.refl _ _) (Nat.le_refl _) (by simp) ?_; (case hd => rfl); (case hg => rfl); (case hr => first | (go_simp; done) | (go_simp; rfl)); (case hp => exact (Reps.none _ _)); intro fe fs ar hb hg_ hnew_; clear hg_ hnew_; (first | rw [← b4.out] at ar | (simp only [Int.reduceToNat] at ar; rw [← b4.out] at ar)); have dq := mA (zP (zS (zS ar (zG (rP c.out))) (zG (rP aK.out))) (Zag (bW))); replace c := mA (zR (rP c.out) (zH ar) hb); replace aK := mA (zR (rP aK.out) (zH ar) hb); replace a := mA (blkB a.out hb); replace HB := mA (Zac (bW) hb); clear hb ar))
     go_loopg [8, 9] k2 (fun kq v8 v9 w' => ∃ (P : List Int) (z : List Int) (d : Int), v9 = .int .i64 d ∧ Zaa (Zao.l2 kq m ac P z d D u y = some r) ∧ Zaa (kq ≤ k2) ∧ Zaa (Kd.R (Kd.int .i64) 2 w' w.heap.size (fun k_ => some k_ ≠ (bx : Value).ownBlock ∧ some k_ ≠ (v8 : Value).ownBlock) (.slice aq m.length O) m) ∧ Zaa (Kd.R (Kd.int .i64) 2 w' w.heap.size (fun k_ => some k_ ≠ ((.slice aq m.length O) : Value).ownBlock ∧ some k_ ≠ (v8 : Value).ownBlock) bx P) ∧ Zaa (Kd.R (Kd.int .i64) 2 w' w.heap.size (fun k_ => some k_ ≠ ((.slice aq m.length O) : Value).ownBlock ∧ some k_ ≠ (bx : Value).ownBlock) v8 z) ∧ Zaa (w'.heap[E]? = some (.cells #[.int .i64 D, (.slice I u.length J), (.slice M y.length L)] 69 (0, 0))) ∧ Zaa (Below w.heap.size w w'))
     case atStart => exact ⟨(cQ), (cR), (0), (eW), H', ⟨Nat.le_refl _⟩, ⟨by (with_reducible repeat (first | apply zC | apply zD | apply zA)); exact zB c.out (fun _ hk => ⟨hk.1.2, hk.2⟩)⟩, ⟨by (with_reducible repeat (first | apply zC | apply zD | apply zA)); exact zB aK.out (fun _ hk => ⟨hk.1.2, hk.2⟩)⟩, ⟨by (with_reducible repeat (first | apply zC | apply zD | apply zA)); exact zB dq.out (fun _ hk => ⟨hk.1.2, hk.2⟩)⟩, ⟨bP a.out⟩, ⟨bW⟩⟩
     case round =>
      clear H' dl dm dn dp
      obtain ⟨P, z, d, rfl, HA, ag, c, j, q, a, HB⟩ := hrel
      cases gk with
      | zero => exact absurd HA.out (by simp [Zao.l2])
      | succ k3 =>
       have H := HA.out
       clear HA
       simp only [Zao.l2] at H
       by_cases aX : d < (m.length : Int); rotate_left
       ·rw [if_neg aX] at H
        have b5 := dF aX
        clear aX
        by_cases aQ : (z.length : Int) = ac
        ·rw [if_pos aQ] at H
         have dr : ((z.length : Int) == ac) = true := beq_iff_eq.mpr aQ
         have dt : ((z.length : Int) != ac) = false := bne_eq_false_iff_eq.mpr aQ
         clear aQ
         obtain rfl := oI H
         obtain ⟨ff, fg, ed⟩ := zJ q.out
         subst ed
         go_wp2
         go_ret
         exact ⟨_, eW, by (with_reducible repeat (first | apply zC | apply zD | apply zA)); exact zB j.out (fun _ hk => trivial), bW⟩
        rw [if_neg aQ] at H
        have dr : ((z.length : Int) == ac) = false := beq_eq_false_iff_ne.mpr aQ
        have dt : ((z.length : Int) != ac) = true := bne_iff_ne.mpr aQ
        have H' := mA H
        clear H
        obtain ⟨fh, fi, ee⟩ := zJ q.out
        subst ee
        go_wp2
        go_roundg k3
        case measure => have := W.out; have := af.out; have := ag.out; omega
        case rel => exact ⟨(P), ((z.length : Int)), (eW), H', ⟨by have := W.out; have := af.out; have := ag.out; omega⟩, ⟨by (with_reducible repeat (first | apply zC | apply zD | apply zA)); exact zB j.out (fun _ hk => trivial)⟩, ⟨bP a.out⟩, ⟨bW⟩⟩
       rw [if_pos aX] at H
       have b5 := dT aX
       clear aX
       by_cases b6 : 0 ≤ d; rotate_left
       ·rw [if_neg b6] at H
        exact absurd H (by simp)
       rw [if_pos b6] at H
       have du := dT b6
       clear b6
       by_cases b7 : d < (P.length : Int); rotate_left
       ·rw [if_neg b7] at H
        exact absurd H (by simp)
       rw [if_pos b7] at H
       have dv := dT b7
       clear b7
       obtain ⟨bh, bi⟩ : ∃ y_ : List Int, y_ = (P.set (d : Int).toNat (-1)) := ⟨_, rfl⟩
       replace H := bsm bi H
       have b8 := mA bi
       clear bi
       by_cases aY : (rd m d) < 0
       ·rw [if_pos aY] at H
        have b9 := dT aY
        clear aY
        have H' := mA H
        clear H
        have aH : 0 ≤ (d : Int) := ofD
        have aI : (d : Int) < ((P.length : Int) : Int) := ofD
        obtain ⟨s, G, aR, aT, bz, ef, aU⟩ := yV j.out (by omega)
        (first | cases aR | (injection aR with ea_ en_ ec_; (first | subst ea_ | (injection ea_ with ea_; subst ea_)); subst ec_; clear en_))
        have aV := mA aT
        have eg := mA aU
        clear aT bz aU
        obtain ⟨bq, cS⟩ := yH 0 j.out (d : Int) aH aI
        replace aH := eq_true aH
        replace aI := eq_true aI
        have bA := yN j.out (d : Int) (-1)
        go_wp2_with (first | ((with_reducible refine Zbp (t := 2) (p := 51) rfl ?_); refine Zdi (t := 2) (p := 51) (w1 := (wr.setCell ⟨s, (d : Int).toNat, none⟩ (.int .i64 (-1)))) ?_; intro cT hw; have hg : wr.grownBy cT (some s) := (by rw [hw]; exact bA.2); have hp_ : Kd.R (Kd.int .i64) 2 cT w.heap.size (fun k_ => some k_ ≠ (.slice aq m.length O : Value).ownBlock ∧ some k_ ≠ (u8 : Value).ownBlock) (.slice (some ⟨s, 0, none⟩) P.length G) bh := (by rw [hw, b8.out]; exact bA.1); clear bA; replace c := mA (zU (v := (.slice (some ⟨s, 0, none⟩) P.length G)) (v1 := (.slice (some ⟨s, 0, none⟩) P.length G)) (ok := (fun k_ => some k_ ≠ (u8 : Value).ownBlock)) (by (with_reducible repeat (first | apply zC | apply zD | apply zA)); exact zB c.out (fun _ hk => ⟨hk.2, hk.1⟩)) hg (.inl rfl)); replace q := mA (zU (v := (.slice (some ⟨s, 0, none⟩) P.length G)) (v1 := (.slice (some ⟨s, 0, none⟩) P.length G)) (ok := (fun k_ => some k_ ≠ (.slice aq m.length O : Value).ownBlock)) (rP q.out) hg (.inl rfl)); replace a := mA (Zaq (g := E) (o := .cells #[.int .i64 D, .slice I u.length J, .slice M y.length L] 69 (0, 0)) (bP a.out) hg (zO j.out a.out (by decide))); replace j := mA (hp_); replace HB := mA ((by rw [hw]; exact Zbs (HB.out) aV.out : Below w.heap.size w cT)); clear hg hw hp_; have ak : 0 ≤ (d : Int) := ofD; have al : d < (m.length : Int) := ofD; obtain ⟨U, bB, aZ⟩ := zI (zE c.out).2.2 d ak al; cases bB; replace ak := eq_true ak; replace al := eq_true al))
        go_roundg k3
        case measure => have := W.out; have := af.out; have := ag.out; omega
        case rel => exact ⟨(bh), (z), (wrap64 (d + 1)), (eW), H', ⟨by have := W.out; have := af.out; have := ag.out; omega⟩, ⟨by (with_reducible repeat (first | apply zC | apply zD | apply zA)); exact zB c.out (fun _ hk => ⟨hk.2, hk.1⟩)⟩, ⟨rP j.out⟩, ⟨rP q.out⟩, ⟨bP a.out⟩, ⟨bW⟩⟩
       rw [if_neg aY] at H
       have b9 := dF aY
       clear aY
       have H' := mA H
       clear H
       have aH : 0 ≤ (d : Int) := ofD
       have aI : (d : Int) < ((P.length : Int) : Int) := ofD
       obtain ⟨s, G, aR, aT, bz, ef, aU⟩ := yV j.out (by omega)
       (first | cases aR | (injection aR with ea_ en_ ec_; (first | subst ea_ | (injection ea_ with ea_; subst ea_)); subst ec_; clear en_))
       have aV := mA aT
       have eg := mA aU
       clear aT bz aU
       obtain ⟨bq, cS⟩ := yH 0 j.out (d : Int) aH aI
       replace aH := eq_true aH
       replace aI := eq_true aI
       have bC := yN j.out (d : Int) (-1)
       go_wp2_with (first | ((with_reducible refine Zbp (t := 2) (p := 51) rfl ?_); refine Zdi (t := 2) (p := 51) (w1 := (wr.setCell ⟨s, (d : Int).toNat, none⟩ (.int .i64 (-1)))) ?_; intro cU hw; have hg : wr.grownBy cU (some s) := (by rw [hw]; exact bC.2); have hp_ : Kd.R (Kd.int .i64) 2 cU w.heap.size (fun k_ => some k_ ≠ (.slice aq m.length O : Value).ownBlock ∧ some k_ ≠ (u8 : Value).ownBlock) (.slice (some ⟨s, 0, none⟩) P.length G) bh := (by rw [hw, b8.out]; exact bC.1); clear bC; replace c := mA (zU (v := (.slice (some ⟨s, 0, none⟩) P.length G)) (v1 := (.slice (some ⟨s, 0, none⟩) P.length G)) (ok := (fun k_ => some k_ ≠ (u8 : Value).ownBlock)) (by (with_reducible repeat (first | apply zC | apply zD | apply zA)); exact zB c.out (fun _ hk => ⟨hk.2, hk.1⟩)) hg (.inl rfl)); replace q := mA (zU (v := (.slice (some ⟨s, 0, none⟩) P.length G)) (v1 := (.slice (some ⟨s, 0, none⟩) P.length G)) (ok := (fun k_ => some k_ ≠ (.slice aq m.length O : Value).ownBlock)) (rP q.out) hg (.inl rfl)); replace a := mA (Zaq (g := E) (o := .cells #[.int .i64 D, .slice I u.length J, .slice M y.length L] 69 (0, 0)) (bP a.out) hg (zO j.out a.out (by decide))); replace j := mA (hp_); replace HB := mA ((by rw [hw]; exact Zbs (HB.out) aV.out : Below w.heap.size w cU)); clear hg hw hp_; have ak : 0 ≤ (d : Int) := ofD; have al : d < (m.length : Int) := ofD; obtain ⟨U, bB, aZ⟩ := zI (zE c.out).2.2 d ak al; cases bB; replace ak := eq_true ak; replace al := eq_true al))
       go_loopg [10] k3 (fun kq v10 w' => ∃ (A : List Int) (B : Int), v10 = .int .i64 B ∧ Zaa (Zao.l3 kq m ac A z d B D u y = some r) ∧ Zaa (kq ≤ k3) ∧ Zaa (Kd.R (Kd.int .i64) 2 w' w.heap.size (fun k_ => some k_ ≠ ((.slice (some ⟨s, 0, none⟩) P.length G) : Value).ownBlock ∧ some k_ ≠ (u8 : Value).ownBlock) (.slice (some U) m.length O) m) ∧ Zaa (Kd.R (Kd.int .i64) 2 w' w.heap.size (fun k_ => some k_ ≠ ((.slice (some U) m.length O) : Value).ownBlock ∧ some k_ ≠ (u8 : Value).ownBlock) (.slice (some ⟨s, 0, none⟩) P.length G) A) ∧ Zaa (Kd.R (Kd.int .i64) 2 w' w.heap.size (fun k_ => some k_ ≠ ((.slice (some U) m.length O) : Value).ownBlock ∧ some k_ ≠ ((.slice (some ⟨s, 0, none⟩) P.length G) : Value).ownBlock) u8 z) ∧ Zaa (w'.heap[E]? = some (.cells #[.int .i64 D, (.slice I u.length J), (.slice M y.length L)] 69 (0, 0))) ∧ Zaa (Below w.heap.size w w'))
       case atStart => exact ⟨(bh), (0), (eW), H', ⟨Nat.le_refl _⟩, ⟨by (with_reducible repeat (first | apply zC | apply zD | apply zA)); exact zB c.out (fun _ hk => ⟨hk.2, hk.1⟩)⟩, ⟨rP j.out⟩, ⟨rP q.out⟩, ⟨bP a.out⟩, ⟨bW⟩⟩
       case round =>
        clear H' b5 du dv aH aI b9 aZ bq ak al
        obtain ⟨A, B, rfl, HA, an, c, j, q, a, HB⟩ := hrel
        have l := (zE j.out).1
        rw [l] at j
        (try simp only [l])
        (try simp only [l] at a)
        (try simp only [l] at c)
        (try simp only [l] at q)
        cases gk with
        | zero => exact absurd HA.out (by simp [Zao.l3])
        | succ k4 =>
         have H := HA.out
         clear HA
         simp only [Zao.l3] at H
         have bD := mA H
         clear H
         go_upto_region 19 with (fail)
         go_cut [67] (fun v67 wc => ∃ (kq : Nat) (aA : Bool), v67 = .bool aA ∧ Zaa (Zao.j4 kq m ac A z d B aA D u y = some r) ∧ Zaa (kq ≤ k4) ∧ Zaa (Kd.R (Kd.int .i64) 2 wc w.heap.size (fun k_ => some k_ ≠ ((.slice (some ⟨s, 0, none⟩) A.length G) : Value).ownBlock ∧ some k_ ≠ (u8 : Value).ownBlock) (.slice (some U) m.length O) m) ∧ Zaa (Kd.R (Kd.int .i64) 2 wc w.heap.size (fun k_ => some k_ ≠ ((.slice (some U) m.length O) : Value).ownBlock ∧ some k_ ≠ (u8 : Value).ownBlock) (.slice (some ⟨s, 0, none⟩) A.length G) A) ∧ Zaa (Kd.R (Kd.int .i64) 2 wc w.heap.size (fun k_ => some k_ ≠ ((.slice (some U) m.length O) : Value).ownBlock ∧ some k_ ≠ ((.slice (some ⟨s, 0, none⟩) A.length G) : Value).ownBlock) u8 z) ∧ Zaa (wc.heap[E]? = some (.cells #[.int .i64 D, (.slice I u.length J), (.slice M y.length L)] 69 (0, 0))) ∧ Zaa (Below w.heap.size w wc))
         case first =>
          have H := bD.out
          clear bD
          by_cases a0 : B < (z.length : Int); rotate_left
          ·rw [if_neg a0] at H
           have ai := dF a0
           (try (have bj := ai; simp only [l] at bj))
           clear a0
           (first | rw [ai] | (simp only [i64_w, i32_w]; rw [ai]) | skip)
           have H' := mA H
           clear H
           obtain ⟨fj, fk, eh⟩ := zJ q.out
           subst eh
           go_wp2
           go_meet
           case rel => exact ⟨_, (false), (eW), H', ⟨by have := W.out; have := af.out; have := ag.out; have := an.out; first | omega | exact Nat.le_refl _⟩, ⟨by (try simp only [l]); exact rP c.out⟩, ⟨by (try simp only [l]); exact rP j.out⟩, ⟨by (try simp only [l]); exact rP q.out⟩, ⟨by (try simp only [l]); exact bP a.out⟩, ⟨bW⟩⟩
          rw [if_pos a0] at H
          have ai := dT a0
          (try (have bj := ai; simp only [l] at bj))
          clear a0
          (first | rw [ai] | (simp only [i64_w, i32_w]; rw [ai]) | skip)
          by_cases ca : 0 ≤ d; rotate_left
          ·rw [if_neg ca] at H
           exact absurd H (by simp)
          rw [if_pos ca] at H
          have eO := dT ca
          clear ca
          by_cases cb : d < (A.length : Int); rotate_left
          ·rw [if_neg cb] at H
           exact absurd H (by simp)
          rw [if_pos cb] at H
          have dw := dT cb
          (try (have dx := dw; simp only [l] at dx))
          clear cb
          have H' := mA H
          clear H
          obtain ⟨fl, fm, ei⟩ := zJ q.out
          subst ei
          have bF : 0 ≤ (d : Int) := ofD
          have bG : d < (A.length : Int) := ofD
          obtain ⟨dy, ej, aE⟩ := zI (zE j.out).2.2 d bF bG
          obtain rfl : (⟨s, 0, none⟩ : Addr) = dy := (by injection ej)
          (first | simp only [Zco] at aE | simp only [add_at] at aE | simp only [Addr.add, Nat.zero_add] at aE | skip)
          replace bF := eq_true bF
          replace bG := eq_true bG
          go_wp2
          go_meet
          case rel => exact ⟨_, (decide ((rd A d) < 0)), (eW), H', ⟨by have := W.out; have := af.out; have := ag.out; have := an.out; first | omega | exact Nat.le_refl _⟩, ⟨by (try simp only [l]); exact rP c.out⟩, ⟨by (try simp only [l]); exact rP j.out⟩, ⟨by (try simp only [l]); exact rP q.out⟩, ⟨by (try simp only [l]); exact bP a.out⟩, ⟨bW⟩⟩
         case rest =>
          clear bD
          obtain ⟨kq, aA, rfl, HA, am, c, j, q, a, HB⟩ := hcut
          cases kq with
          | zero => exact absurd HA.out (by simp [Zao.j4])
          | succ aG =>
           have H := HA.out
           clear HA
           simp only [Zao.j4] at H
           by_cases cc : aA = true; rotate_left
           ·replace cc := Bool.eq_false_iff.mpr cc
            subst cc
            rw [iF] at H
            by_cases cd : 0 ≤ d; rotate_left
            ·rw [if_neg cd] at H
             exact absurd H (by simp)
            rw [if_pos cd] at H
            have eP := dT cd
            clear cd
            by_cases ce : d < (A.length : Int); rotate_left
            ·rw [if_neg ce] at H
             exact absurd H (by simp)
            rw [if_pos ce] at H
            have dz := dT ce
            (try (have dA := dz; simp only [l] at dA))
            clear ce
            by_cases a1 : (rd A d) < 0; rotate_left
            ·rw [if_neg a1] at H
             have dB := dF a1
             clear a1
             have H' := mA H
             clear H
             have au : 0 ≤ (d : Int) := ofD
             have av : d < (A.length : Int) := ofD
             obtain ⟨bk, bH, ab⟩ := zI (zE j.out).2.2 d au av
             obtain rfl : (⟨s, 0, none⟩ : Addr) = bk := (by injection bH)
             (first | simp only [Zco] at ab | simp only [add_at] at ab | simp only [Addr.add, Nat.zero_add] at ab | skip)
             replace au := eq_true au
             replace av := eq_true av
             go_wp2
             (try simp only [← l])
             go_roundg aG
             case measure => have := W.out; have := af.out; have := ag.out; have := an.out; have := am.out; omega
             case rel => exact ⟨(A), (z), (wrap64 (d + 1)), (eW), H', ⟨by have := W.out; have := af.out; have := ag.out; have := an.out; have := am.out; omega⟩, ⟨by (try simp only [l]); exact rP c.out⟩, ⟨by (try simp only [l]); exact rP j.out⟩, ⟨by (try simp only [l]); exact rP q.out⟩, ⟨by (try simp only [l]); exact bP a.out⟩, ⟨bW⟩⟩
            rw [if_pos a1] at H
            have dB := dT a1
            clear a1
            obtain ⟨cV, bl⟩ : ∃ y_ : List Int, y_ = (A.set (d : Int).toNat (z.length : Int)) := ⟨_, rfl⟩
            rw [← bl] at H
            have dC := mA bl
            clear bl
            by_cases cf : z.length < 17592186044416; rotate_left
            ·rw [if_neg cf] at H
             exact absurd H (by simp)
            rw [if_pos cf] at H
            have dD := mA cf
            clear cf
            obtain ⟨ek, bm⟩ : ∃ y_ : List Int, y_ = (z ++ [d]) := ⟨_, rfl⟩
            rw [← bm] at H
            have dE := mA bm
            clear bm
            have H' := mA H
            clear H
            have au : 0 ≤ (d : Int) := ofD
            have av : d < (A.length : Int) := ofD
            obtain ⟨bk, bH, ab⟩ := zI (zE j.out).2.2 d au av
            obtain rfl : (⟨s, 0, none⟩ : Addr) = bk := (by injection bH)
            (first | simp only [Zco] at ab | simp only [add_at] at ab | simp only [Addr.add, Nat.zero_add] at ab | skip)
            replace au := eq_true au
            replace av := eq_true av
            obtain ⟨bI, bJ, el⟩ := zJ q.out
            subst el
            have cW : 0 ≤ (d : Int) := ofD
            have cX : (d : Int) < ((A.length : Int) : Int) := ofD
            obtain ⟨eF, eG⟩ := yH 0 j.out (d : Int) cW cX
            replace cW := eq_true cW
            replace cX := eq_true cX
            have bK := yN j.out (d : Int) (z.length : Int)
            go_wp2_with (first | ((with_reducible refine Zbp (t := 2) (p := 91) rfl ?_); refine Zdi (t := 2) (p := 91) (w1 := (wc.setCell ⟨s, (d : Int).toNat, none⟩ (.int .i64 (z.length : Int)))) ?_; intro cY hw; have hg : wc.grownBy cY (some s) := (by rw [hw]; exact bK.2); have hp_ : Kd.R (Kd.int .i64) 2 cY w.heap.size (fun k_ => some k_ ≠ (.slice (some U) m.length O : Value).ownBlock ∧ some k_ ≠ (.slice bI z.length bJ : Value).ownBlock) (.slice (some ⟨s, 0, none⟩) A.length G) cV := (by rw [hw, dC.out]; exact bK.1); clear bK; replace c := mA (zU (v := (.slice (some ⟨s, 0, none⟩) A.length G)) (v1 := (.slice (some ⟨s, 0, none⟩) A.length G)) (ok := (fun k_ => some k_ ≠ (.slice bI z.length bJ : Value).ownBlock)) (by (with_reducible repeat (first | apply zC | apply zD | apply zA)); exact zB c.out (fun _ hk => ⟨hk.2, hk.1⟩)) hg (.inl rfl)); replace q := mA (zU (v := (.slice (some ⟨s, 0, none⟩) A.length G)) (v1 := (.slice (some ⟨s, 0, none⟩) A.length G)) (ok := (fun k_ => some k_ ≠ (.slice (some U) m.length O : Value).ownBlock)) (rP q.out) hg (.inl rfl)); replace a := mA (Zaq (g := E) (o := .cells #[.int .i64 D, .slice I u.length J, .slice M y.length L] 69 (0, 0)) (bP a.out) hg (zO j.out a.out (by decide))); replace j := mA (hp_); replace HB := mA ((by rw [hw]; exact Zbs (HB.out) aV.out : Below w.heap.size w cY)); clear hg hw hp_) | ((with_reducible refine Zbl (b := .append) (xs := #[.tmp 92, .tmp 94]) rfl ?_); at_builtin; refine xI (Kd.int .i64) (w0 := w) w.heap.size rfl (.tmp 92) (.tmp 94) 22 2 (.int .i64 0) 8 rfl Tryd.underlying22 info2 rfl (by decide) (by omega) (.slice bI z.length bJ) z d [.int .i64 d] (fun k_ => some k_ ≠ (.slice (some U) m.length O : Value).ownBlock ∧ some k_ ≠ (.slice (some ⟨s, 0, none⟩) A.length G : Value).ownBlock) (fun _ => False) rfl rfl ?aP (fun _ hk => hk.elim) ?aF ?aO ?aB ?aS ?aL ?_; (case aP => exact rfl); (case aB => exact (bW)); (case aF => exact (fun k_ hk => ⟨zT (zG (rP c.out)) k_ hk, zT (zG (rP j.out)) k_ hk⟩)); (case aO => exact (rP q.out)); (case aS => exact (Zag (bW))); (case aL => have := dD.out; omega); intro fn ft ho hb hg hat; rw [← dE.out] at ho; replace c := mA (zU (ok := (fun k_ => some k_ ≠ (.slice (some ⟨s, 0, none⟩) A.length G : Value).ownBlock)) (by (with_reducible repeat (first | apply zC | apply zD | apply zA)); exact zB c.out (fun _ hk => ⟨hk.2, hk.1⟩)) hg hat); replace j := mA (zU (ok := (fun k_ => some k_ ≠ (.slice (some U) m.length O : Value).ownBlock)) (rP j.out) hg hat); replace a := mA (Zaq (g := E) (o := .cells #[.int .i64 D, .slice I u.length J, .slice M y.length L] 69 (0, 0)) (bP a.out) hg (zO q.out a.out (by decide))); replace HB := mA (hb); have dG := mA (ho); clear q ho hb hg hat))
            (try simp only [← l])
            go_roundg aG
            case measure => have := W.out; have := af.out; have := ag.out; have := an.out; have := am.out; omega
            case rel => exact ⟨(cV), (ek), (wrap64 (d + 1)), (eW), H', ⟨by have := W.out; have := af.out; have := ag.out; have := an.out; have := am.out; omega⟩, ⟨by (try simp only [l]); exact rP c.out⟩, ⟨by (try simp only [l]); exact rP j.out⟩, ⟨by (try simp only [l]); exact rP dG.out⟩, ⟨by (try simp only [l]); exact bP a.out⟩, ⟨bW⟩⟩
           subst cc
           rw [if_pos rfl] at H
           by_cases cg : 0 ≤ B; rotate_left
           ·rw [if_neg cg] at H
            exact absurd H (by simp)
           rw [if_pos cg] at H
           have eQ := dT cg
           clear cg
           by_cases ch : B < (z.length : Int); rotate_left
           ·rw [if_neg ch] at H
            exact absurd H (by simp)
           rw [if_pos ch] at H
           have dH := dT ch
           (try (have dI := dH; simp only [l] at dI))
           clear ch
           replace H := bE H
           obtain ⟨em, cZ, H⟩ := H
           have dP := mA cZ
           clear cZ
           by_cases ci : em = true; rotate_left
           ·replace ci := Bool.eq_false_iff.mpr ci
            subst ci
            rw [iF] at H
            have H' := mA H
            clear H
            try go_wp2
            replace c := mA (zA c.out)
            replace j := mA (zA j.out)
            replace q := mA (zA q.out)
            replace a := mA (Zad a.out)
            replace HB := mA (Za0 HB.out)
            obtain ⟨fo, fp, c0⟩ := zJ q.out
            (first | subst c0 | (injection c0 with br c1 bs; have da := br.symm; have db := bs.symm; clear br c1 bs; subst da; subst db))
            have aw : 0 ≤ (B : Int) := ofD
            have ax : B < (z.length : Int) := ofD
            obtain ⟨aC, bL, ah⟩ := zI (zE q.out).2.2 B aw ax
            cases bL
            replace aw := eq_true aw
            replace ax := eq_true ax
            refine Zcq (n := 8) (S := fun w' => w'.cell? ⟨E, 0, none⟩ = some (.int .i64 D) ∧ w'.cell? ⟨E, 1, none⟩ = some (.slice I u.length J) ∧ w'.cell? ⟨E, 2, none⟩ = some (.slice M y.length L) ∧ w'.cell? (aC.add (B).toNat) = some (.int .i64 (rd z B))) (ds := []) #[false, false, false, false, false, false, false, false] (by kernel_rfl) rfl rfl ⟨bc a 0, bc a 1, bc a 2, ah⟩ (fun hHeld => ?_); refine Zb7 Zao.tab21 Zao.bits21 (fun HT_ HW_ => ?_)
            generalize wc.drew = w69 at c j q a HB ah hHeld ⊢
            refine Zan (i := 1) (N := some 71) (Zai HT_.out (by kernel_rfl)) ?_
            refine Zan (i := 2) (N := some 72) (Zai HT_.out (by kernel_rfl)) ?_
            refine Zan (i := 3) (N := some 73) (Zai HT_.out (by kernel_rfl)) ?_
            refine Zan (i := 4) (N := some 74) (Zai HT_.out (by kernel_rfl)) ?_
            refine Zan (i := 5) (N := some 75) (Zai HT_.out (by kernel_rfl)) ?_
            refine Za8 (i := 0) (N := some 70) (Zaz HT_.out HW_.out (by kernel_rfl)) hHeld ?_
            refine Za8 (i := 6) (N := some 76) (Zaz HT_.out HW_.out (by kernel_rfl)) hHeld ?_
            refine one_ (i := 7) (N := some 77) #[true, true, true, true, true, true, true, true] rfl rfl (Za9 HT_.out (by kernel_rfl)) (by decide) (fun K hK => ?_)
            refine Zb6 Tryd.func81 (by kernel_rfl) rfl #[.agg #[.int .i64 D, .slice I u.length J, .slice M y.length L], .slice (some U) m.length O, .int .i64 d, .int .i64 (rd z B)] (by rfl) rfl rfl (by (try simp only [List.map_toArray, List.map_cons, List.map_nil]); first | done | rfl | (simp only [List.length_drop, List.length_take]; rfl)) ?_
            with_reducible refine (Zb0.calls aG D _ _ u _ _ y _ _ m d (rd z B) false _ ?side1 ?side2 ?side3 ?side4 ?side5 ?side6 dP.out).mono ?_
            (case side1 => exact cP (zF a2.out HB.out))
            (case side2 => exact a3.out)
            (case side3 => exact cP (zF ay.out HB.out))
            (case side4 => exact a4.out)
            (case side5 => exact cP ((zE c.out).2.2))
            (case side6 => exact (zE c.out).2.1)
            rintro e fu ⟨rfl, hb⟩
            have bM := (hb.cell (World.block_lt_of_cell? _ _ (hHeld.2.2.2))).trans (hHeld.2.2.2)
            refine ⟨_, rfl, ?_⟩
            replace c := mA (zK (rP c.out) hb)
            replace j := mA (zK (rP j.out) hb)
            replace q := mA (zK (rP q.out) hb)
            replace a := mA (blkB a.out hb)
            replace HB := mA (Zac (bW) hb)
            (try clear hb)
            (try clear hb2)
            (try clear hk)
            (try clear hi)
            refine hK.out _ _ ⟨bc a 0, bc a 1, bc a 2, bM⟩ (fun hHeld => ?_)
            clear hK K
            refine putS 77 ?_
            refine Zcz (Zct HT_.out (by kernel_rfl)) ?_
            try go_wp2
            (try simp only [← l])
            go_roundg aG
            case measure => have := W.out; have := af.out; have := ag.out; have := an.out; have := am.out; omega
            case rel => exact ⟨(A), (wrap64 (B + 1)), (eW), H', ⟨by have := W.out; have := af.out; have := ag.out; have := an.out; have := am.out; omega⟩, ⟨by (try simp only [l]); exact rP c.out⟩, ⟨by (try simp only [l]); exact rP j.out⟩, ⟨by (try simp only [l]); exact rP q.out⟩, ⟨by (try simp only [l]); exact bP a.out⟩, ⟨bW⟩⟩
           subst ci
           rw [if_pos rfl] at H
           by_cases cj : 0 ≤ d; rotate_left
           ·rw [if_neg cj] at H
            exact absurd H (by simp)
           rw [if_pos cj] at H
           have eR := dT cj
           clear cj
           by_cases ck : d < (A.length : Int); rotate_left
           ·rw [if_neg ck] at H
            exact absurd H (by simp)
           rw [if_pos ck] at H
           have dJ := dT ck
           (try (have dK := dJ; simp only [l] at dK))
           clear ck
           obtain ⟨dc, bn⟩ : ∃ y_ : List Int, y_ = (A.set (d : Int).toNat B) := ⟨_, rfl⟩
           rw [← bn] at H
           have dL := mA bn
           clear bn
           have H' := mA H
           clear H
           try go_wp2
           replace c := mA (zA c.out)
           replace j := mA (zA j.out)
           replace q := mA (zA q.out)
           replace a := mA (Zad a.out)
           replace HB := mA (Za0 HB.out)
           obtain ⟨fq, dd, de⟩ := zJ q.out
           (first | subst de | (injection de with br c1 bs; have da := br.symm; have db := bs.symm; clear br c1 bs; subst da; subst db))
           have aw : 0 ≤ (B : Int) := ofD
           have ax : B < (z.length : Int) := ofD
           obtain ⟨aC, bL, ah⟩ := zI (zE q.out).2.2 B aw ax
           cases bL
           replace aw := eq_true aw
           replace ax := eq_true ax
           refine Zcq (n := 8) (S := fun w' => w'.cell? ⟨E, 0, none⟩ = some (.int .i64 D) ∧ w'.cell? ⟨E, 1, none⟩ = some (.slice I u.length J) ∧ w'.cell? ⟨E, 2, none⟩ = some (.slice M y.length L) ∧ w'.cell? (aC.add (B).toNat) = some (.int .i64 (rd z B))) (ds := []) #[false, false, false, false, false, false, false, false] (by kernel_rfl) rfl rfl ⟨bc a 0, bc a 1, bc a 2, ah⟩ (fun hHeld => ?_); refine Zb7 Zao.tab21 Zao.bits21 (fun HT_ HW_ => ?_)
           generalize wc.drew = w64 at c j q a HB ah hHeld ⊢
           refine Zan (i := 1) (N := some 71) (Zai HT_.out (by kernel_rfl)) ?_
           refine Zan (i := 2) (N := some 72) (Zai HT_.out (by kernel_rfl)) ?_
           refine Zan (i := 3) (N := some 73) (Zai HT_.out (by kernel_rfl)) ?_
           refine Zan (i := 4) (N := some 74) (Zai HT_.out (by kernel_rfl)) ?_
           refine Zan (i := 5) (N := some 75) (Zai HT_.out (by kernel_rfl)) ?_
           refine Za8 (i := 0) (N := some 70) (Zaz HT_.out HW_.out (by kernel_rfl)) hHeld ?_
           refine Za8 (i := 6) (N := some 76) (Zaz HT_.out HW_.out (by kernel_rfl)) hHeld ?_
           refine one_ (i := 7) (N := some 77) #[true, true, true, true, true, true, true, true] rfl rfl (Za9 HT_.out (by kernel_rfl)) (by decide) (fun K hK => ?_)
           refine Zb6 Tryd.func81 (by kernel_rfl) rfl #[.agg #[.int .i64 D, .slice I u.length J, .slice M y.length L], .slice (some U) m.length O, .int .i64 d, .int .i64 (rd z B)] (by rfl) rfl rfl (by (try simp only [List.map_toArray, List.map_cons, List.map_nil]); first | done | rfl | (simp only [List.length_drop, List.length_take]; rfl)) ?_
           with_reducible refine (Zb0.calls aG D _ _ u _ _ y _ _ m d (rd z B) true _ ?side1 ?side2 ?side3 ?side4 ?side5 ?side6 dP.out).mono ?_
           (case side1 => exact cP (zF a2.out HB.out))
           (case side2 => exact a3.out)
           (case side3 => exact cP (zF ay.out HB.out))
           (case side4 => exact a4.out)
           (case side5 => exact cP ((zE c.out).2.2))
           (case side6 => exact (zE c.out).2.1)
           rintro e dQ ⟨rfl, hb⟩
           have bM := (hb.cell (World.block_lt_of_cell? _ _ (hHeld.2.2.2))).trans (hHeld.2.2.2)
           refine ⟨_, rfl, ?_⟩
           replace c := mA (zK (rP c.out) hb)
           replace j := mA (zK (rP j.out) hb)
           replace q := mA (zK (rP q.out) hb)
           replace a := mA (blkB a.out hb)
           replace HB := mA (Zac (bW) hb)
           (try clear hb)
           (try clear hb2)
           (try clear hk)
           (try clear hi)
           refine hK.out _ _ ⟨bc a 0, bc a 1, bc a 2, bM⟩ (fun hHeld => ?_)
           clear hK K
           refine putS 77 ?_
           refine Zcz (Zct HT_.out (by kernel_rfl)) ?_
           have df : 0 ≤ (d : Int) := ofD
           have dg : (d : Int) < ((A.length : Int) : Int) := ofD
           obtain ⟨eH, eI⟩ := yH 0 j.out (d : Int) df dg
           replace df := eq_true df
           replace dg := eq_true dg
           obtain ⟨eS, eT⟩ := yH 0 j.out (d : Int) (ofD) (ofD)
           have bN := yN j.out (d : Int) B
           try go_wp2_with (first | ((with_reducible refine Zbp (t := 2) (p := 81) rfl ?_); refine Zdi (t := 2) (p := 81) (w1 := (dQ.setCell ⟨s, (d : Int).toNat, none⟩ (.int .i64 B))) ?_; intro dh hw; have hg : dQ.grownBy dh (some s) := (by rw [hw]; exact bN.2); have hp_ : Kd.R (Kd.int .i64) 2 dh w.heap.size (fun k_ => some k_ ≠ (.slice (some U) m.length O : Value).ownBlock ∧ some k_ ≠ (.slice (some aC) z.length dd : Value).ownBlock) (.slice (some ⟨s, 0, none⟩) A.length G) dc := (by rw [hw, dL.out]; exact bN.1); clear bN; replace c := mA (zU (v := (.slice (some ⟨s, 0, none⟩) A.length G)) (v1 := (.slice (some ⟨s, 0, none⟩) A.length G)) (ok := (fun k_ => some k_ ≠ (.slice (some aC) z.length dd : Value).ownBlock)) (by (with_reducible repeat (first | apply zC | apply zD | apply zA)); exact zB c.out (fun _ hk => ⟨hk.2, hk.1⟩)) hg (.inl rfl)); replace q := mA (zU (v := (.slice (some ⟨s, 0, none⟩) A.length G)) (v1 := (.slice (some ⟨s, 0, none⟩) A.length G)) (ok := (fun k_ => some k_ ≠ (.slice (some U) m.length O : Value).ownBlock)) (rP q.out) hg (.inl rfl)); replace a := mA (Zaq (g := E) (o := .cells #[.int .i64 D, .slice I u.length J, .slice M y.length L] 69 (0, 0)) (bP a.out) hg (zO j.out a.out (by decide))); replace j := mA (hp_); replace HB := mA ((by rw [hw]; exact Zbs (HB.out) aV.out : Below w.heap.size w dh)); clear hg hw hp_))
           (try simp only [← l])
           go_roundg aG
           case measure => have := W.out; have := af.out; have := ag.out; have := an.out; have := am.out; omega
           case rel => exact ⟨(dc), (wrap64 (B + 1)), (eW), H', ⟨by have := W.out; have := af.out; have := ag.out; have := an.out; have := am.out; omega⟩, ⟨by (try simp only [l]); (with_reducible repeat (first | apply zC | apply zD | apply zA)); exact zB c.out (fun _ hk => ⟨hk.2, hk.1⟩)⟩, ⟨by (try simp only [l]); exact rP j.out⟩, ⟨by (try simp only [l]); exact rP q.out⟩, ⟨by (try simp only [l]); exact bP a.out⟩, ⟨bW⟩⟩
end Go.Proofs.YtgindgodfcfgkaaDoor.P
end M0
