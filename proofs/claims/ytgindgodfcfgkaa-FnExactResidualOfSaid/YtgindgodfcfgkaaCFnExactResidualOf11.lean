import Derived.Test.YtgindgodfcfgkaaCFnExactResidualOf10
section M0
namespace Go.Proofs.Ytgindgodfcfgkaa.P
open Go.RowKit Go.Proofs.Ytgindgodfcfgkaa.Sh Go.Proofs.YtgindgodfcfgkaaW.PrintWords Go.Proofs.YtgindgodfcfgkaaW.PrintLast Go.Proofs.YtgindgodfcfgkaaW.PrintMore
open Kd
attribute [local go_sem] Zcc Zcd Zck Zcl Zb2 Zb3 Zce Zcb   -- for this text's walks alone
set_option linter.unusedVariables false
set_option linter.unusedSimpArgs false
mutual
def Zam.l0 : Nat → List Bool → List Int → Int → Int → List (List Int) → List Bool → Option (List Int)
 | 0, _, _, _, _, _, _ => none
 | k + 1, x3, x4, x5, b, c, a => if x5 < (x4.length : Int) then (if 0 ≤ x5 then (if x5 < (x3.length : Int) then (if rdOf false x3 x5 = true then (if x5 < (a.length : Int) then (if rdOf false a x5 = true then (Zam.l0 k x3 (x4.set (x5 : Int).toNat 1) (wrap64 (x5 + 1)) b c a) else (Zam.l0 k x3 x4 (wrap64 (x5 + 1)) b c a)) else (none)) else (Zam.l0 k x3 (x4.set (x5 : Int).toNat (-1)) (wrap64 (x5 + 1)) b c a)) else (none)) else (none)) else (Zam.l1 k x4 (-1) b c a)
def Zam.l1 : Nat → List Int → Int → Int → List (List Int) → List Bool → Option (List Int)
 | 0, _, _, _, _, _ => none
 | k + 1, x4, x6, a, b, c => if 0 ≤ (x4.length : Int) then (if ((x4.length : Int) : Int).toNat ≤ 35184372088832 then (Zam.l2 k x4 x6 (List.replicate ((x4.length : Int) : Int).toNat 0) (([] : List Int)) 0 a b c) else (none)) else (none)
def Zam.l2 : Nat → List Int → Int → List Int → List Int → Int → Int → List (List Int) → List Bool → Option (List Int)
 | 0, _, _, _, _, _, _, _, _ => none
 | k + 1, x4, x6, x7, x8, x9, a, b, c => if x9 < (x4.length : Int) then (if 0 ≤ x9 then (if x9 < (x7.length : Int) then ((some (x7.set (x9 : Int).toNat (-1) : List Int)).bind fun d => (if (rd x4 x9) < 0 then (Zam.l2 k x4 x6 d x8 (wrap64 (x9 + 1)) a b c) else (Zam.l3 k x4 x6 d x8 x9 0 a b c))) else (none)) else (none)) else (if (x8.length : Int) = x6 then (some x7) else (Zam.l1 k x7 (x8.length : Int) a b c))
def Zam.l3 : Nat → List Int → Int → List Int → List Int → Int → Int → Int → List (List Int) → List Bool → Option (List Int)
 | 0, _, _, _, _, _, _, _, _, _ => none
 | k + 1, x4, x6, x7, x8, x9, d, a, b, c => if d < (x8.length : Int) then (if 0 ≤ x9 then (if x9 < (x7.length : Int) then (Zam.j4 k x4 x6 x7 x8 x9 d (decide ((rd x7 x9) < 0)) a b c) else (none)) else (none)) else (Zam.j4 k x4 x6 x7 x8 x9 d false a b c)
def Zam.j4 : Nat → List Int → Int → List Int → List Int → Int → Int → Bool → Int → List (List Int) → List Bool → Option (List Int)
 | 0, _, _, _, _, _, _, _, _, _, _ => none
 | k + 1, x4, x6, x7, x8, x9, d, g, a, b, c => if g = true then (if 0 ≤ d then (if d < (x8.length : Int) then ((Zbq.f k a b c x4 x9 (rd x8 d)).bind fun e => (if e = true then (if 0 ≤ x9 then (if x9 < (x7.length : Int) then (Zam.l3 k x4 x6 (x7.set (x9 : Int).toNat d) x8 x9 (wrap64 (d + 1)) a b c) else (none)) else (none)) else (Zam.l3 k x4 x6 x7 x8 x9 (wrap64 (d + 1)) a b c))) else (none)) else (none)) else (if 0 ≤ x9 then (if x9 < (x7.length : Int) then (if (rd x7 x9) < 0 then (if x8.length < 17592186044416 then (Zam.l2 k x4 x6 (x7.set (x9 : Int).toNat (x8.length : Int)) (x8 ++ [x9]) (wrap64 (x9 + 1)) a b c) else (none)) else (Zam.l2 k x4 x6 x7 x8 (wrap64 (x9 + 1)) a b c)) else (none)) else (none))
end
def Zam.f (k : Nat) (b : Int) (a : List (List Int)) (c : List Bool) : Option (List Int) := (Zay.f k b a c).bind fun d => (if 0 ≤ (a.length : Int) then (if ((a.length : Int) : Int).toNat ≤ 35184372088832 then (Zam.l0 k d (List.replicate ((a.length : Int) : Int).toNat 0) 0 b a c) else (none)) else (none))
def Zam.T21 : Bool × List (List Nat × List Nat) := (true, [([], []), ([], []), ([], []), ([], []), ([], []), ([3, 4], [3, 4]), ([5], [5]), ([0, 1, 2, 6], [0, 1, 2, 6])])
def Zam.B21 : List Nat := [0, 0, 0, 0, 0, 24, 56, 127]
theorem Zam.tab21 : rtab .any (opsOf Try.f102 21) = Zam.T21 := by kernel_rfl
theorem Zam.bits21 : Zda Zam.T21.2 Zam.B21 = true := by kernel_rfl
set_option maxHeartbeats 8000000 in
set_option maxRecDepth 100000 in
theorem Zam.calls (k : Nat) (D : Int) (J : Option Addr) (L : Nat) (u : List (List Int)) (O : Option Addr) (M : Nat) (y : List Bool) (r : List Int) (w : World) (cJ : Kd.C (Kd.slice 2 (Kd.int .i64)) w J u.length u) (cK : u.length ≤ L) (cL : Kd.C Kd.bool w O y.length y) (cM : y.length ≤ M) (h : Zam.f k D u y = some r) :
  Calls Try.prog 102 #[.agg #[.int .i64 D, .slice J u.length L, .slice O y.length M]] w fun e w' => ∃ ea : Value, e = .returned (ea) ∧ Kd.R (Kd.int .i64) 2 w' w.heap.size (fun _ => True) ea r ∧ Below w.heap.size w w' := by
 have eV := Try.underlying95
 have bU := mA cJ
 have bV := mA cK
 clear cJ cK
 have ba := mA cL
 have bX := mA cM
 clear cL cM
 have HB := mA (Below.refl w.heap.size w)
 unfold Zam.f at h
 have H := h
 clear h
 replace H := bE H
 obtain ⟨an, eb, H⟩ := H
 have A2 := mA eb
 clear eb
 by_cases c3 : 0 ≤ (u.length : Int); rotate_left
 ·rw [if_neg c3] at H
  exact absurd H (by simp)
 rw [if_pos c3] at H
 have bC := eq_true c3
 have bD := dT c3
 clear c3
 by_cases c4 : ((u.length : Int) : Int).toNat ≤ 35184372088832; rotate_left
 ·rw [if_neg c4] at H
  exact absurd H (by simp)
 rw [if_pos c4] at H
 have bF := eq_true c4
 have bG := dT c4
 clear c4
 obtain ⟨ef, bY⟩ : ∃ y_ : List Int, y_ = (List.replicate ((u.length : Int) : Int).toNat 0) := ⟨_, rfl⟩
 rw [← bY] at H
 have cN := mA bY
 clear bY
 have H' := mA H
 clear H
 go_enter Try.func102, Try.ntmps102
 go_wp2_with (first | ((with_reducible refine Zap (N := 1) rfl ?_); refine boxS (N := 1) (cs := #[.int .i64 D, .slice J u.length L, .slice O y.length M]) (t := 95) ?_; intro E hg w5 hbox hb; have a := mA (hbox); have eO := geW (w := w) hg; have eP := geW (w := w) hg; replace HB := mA (Zaf (bW) hb); clear hb hbox hg; obtain ⟨ao, ap, aq⟩ := cells3 a.out; obtain ⟨ar, au, av⟩ := frz3 a.out) | ((with_reducible refine Zar (f := 112) rfl ?_); refine Za2 (some 12) Try.func112 #[.agg #[.int .i64 D, .slice J u.length L, .slice O y.length M]] ?_; (with_reducible refine (Zay.calls k D _ _ u _ _ y an _ ?side1 ?side2 ?side3 ?side4 A2.out).mono ?_); (case side1 => exact cP (zL bU.out HB.out)); (case side2 => exact bV.out); (case side3 => exact cP (zL ba.out HB.out)); (case side4 => exact bX.out); rintro e w7 ⟨eg, rfl, ec, hb⟩; refine ⟨_, rfl, ?_⟩; have bZ := mA (zV ec (Zan (bW))); replace a := mA (blkB a.out hb); replace HB := mA (Zaf (bW) hb); (try clear hb); (try clear hb2); (try clear hk); (try clear hi); (try clear ec); obtain ⟨aw, ax, ay⟩ := cells3 a.out; obtain ⟨az, aA, aC⟩ := frz3 a.out) | ((with_reducible refine Zap (N := 16) rfl ?_); refine xI (Kd.int .i64) _ 2 rfl (N := 16) rfl 33 _ _ rfl (u.length : Int) rfl rfl Try.underlying33 (.int .i64 0) 8 info2 rfl (by decide) (by omega) 0 (ok := fun _ => True) (okp := fun _ => True) rfl (fun _ hk => hk) trivial (ofD) (Nat.le_trans (Nat.mul_le_mul_right _ (ofD : (u.length : Int).toNat ≤ 35184372088832)) (by omega)) (Below.refl _ _) (Nat.le_refl _) ?_; intro eh w9 bH hb hg_ hnew_; clear hg_ hnew_; (first | rw [← cN.out] at bH | (simp only [Int.reduceToNat] at bH; rw [← cN.out] at bH)); replace bZ := mA (zM (rP bZ.out) hb); have dO := mA (zV bH (Zan (bW))); replace a := mA (blkB a.out hb); replace HB := mA (Zaf (bW) hb); clear hb bH))
 go_loopg [5] k (fun kq v5 w' => ∃ (ab : List Int) (x : Int), v5 = .int .i64 x ∧ Zad (Zam.l0 kq an ab x D u y = some r) ∧ Zad (kq ≤ k) ∧ Zad (Kd.R Kd.bool 4 w' w.heap.size (fun _ => True) eg an) ∧ Zad (Kd.R (Kd.int .i64) 2 w' w.heap.size (fun _ => True) eh ab) ∧ Zad (w'.heap[E]? = some (.cells #[.int .i64 D, (.slice J u.length L), (.slice O y.length M)] 95 (0, 0))) ∧ Zad (Below w.heap.size w w'))
 case atStart => exact ⟨(ef), (0), (eW), H', ⟨Nat.le_refl _⟩, ⟨rP bZ.out⟩, ⟨rP dO.out⟩, ⟨bP a.out⟩, ⟨bW⟩⟩
 case round =>
  clear H'
  try clear c1
  try clear p2
  try clear c3
  try clear bC
  try clear bD
  try clear c4
  try clear bF
  try clear bG
  try clear c10
  try clear ao
  try clear ap
  try clear aq
  try clear aw
  try clear ax
  try clear ay
  try clear ar
  try clear au
  try clear av
  try clear az
  try clear aA
  try clear aC
  obtain ⟨ab, x, rfl, HA, aa, ac, c, a, HB⟩ := hrel
  cases gk with
  | zero => exact absurd HA.out (by simp [Zam.l0])
  | succ k1 =>
   have H := HA.out
   clear HA
   simp only [Zam.l0] at H
   by_cases a2 : x < (ab.length : Int)
   ·rw [if_pos a2] at H
    have bb := dT a2
    clear a2
    by_cases bm : 0 ≤ x; rotate_left
    ·rw [if_neg bm] at H
     exact absurd H (by simp)
    rw [if_pos bm] at H
    have bw := dT bm
    clear bm
    by_cases bn : x < (an.length : Int); rotate_left
    ·rw [if_neg bn] at H
     exact absurd H (by simp)
    rw [if_pos bn] at H
    have bx := dT bn
    clear bn
    obtain ⟨ei, b0⟩ : ∃ b_ : Bool, b_ = (rdOf false an x) := ⟨_, rfl⟩
    rw [← b0] at H
    have bd := mA b0
    clear b0
    by_cases bo : ei = true; rotate_left
    ·replace bo := Bool.eq_false_iff.mpr bo
     subst bo
     rw [iF] at H
     obtain ⟨df, b1⟩ : ∃ y_ : List Int, y_ = (ab.set (x : Int).toNat (-1)) := ⟨_, rfl⟩
     rw [← b1] at H
     have dP := mA b1
     clear b1
     have H' := mA H
     clear H
     obtain ⟨eX, dg, ej⟩ := zP c.out
     subst ej
     obtain ⟨eY, eZ, ek⟩ := zP ac.out
     subst ek
     have X : 0 ≤ (x : Int) := ofD
     have Y : x < (an.length : Int) := ofD
     obtain ⟨cO, bI, U⟩ := yC (zK ac.out).2.2 x X Y
     (try rw [← bd.out] at U)
     cases bI
     replace X := eq_true X
     replace Y := eq_true Y
     have aD : 0 ≤ (x : Int) := ofD
     have aE : (x : Int) < ((ab.length : Int) : Int) := ofD
     obtain ⟨b2, e0, dh, di, el, e1, dj⟩ := yM c.out (by omega)
     (first | cases dh | (injection dh with ea_ en_ ec_; (first | subst ea_ | (injection ea_ with ea_; subst ea_)); subst ec_; clear en_))
     have em := mA di
     have e2 := mA dj
     clear di el dj
     obtain ⟨bf, eI⟩ := yF 0 c.out (x : Int) aD aE
     replace aD := eq_true aD
     replace aE := eq_true aE
     have ct := yG c.out (x : Int) (-1)
     go_wp2_with (first | ((with_reducible refine Zbl (t := 2) (p := 30) rfl ?_); refine Zc2 (t := 2) (p := 30) (w1 := (wr.setCell ⟨b2, (x : Int).toNat, none⟩ (.int .i64 (-1)))) ?_; intro dk hw; have hg : wr.grownBy dk (some b2) := (by rw [hw]; exact ct.2); have hp_ : Kd.R (Kd.int .i64) 2 dk w.heap.size (fun _ => True) (.slice (some ⟨b2, 0, none⟩) ab.length dg) df := (by rw [hw, dP.out]; exact ct.1); clear ct; replace ac := mA (yH (v := (.slice (some ⟨b2, 0, none⟩) ab.length dg)) (rP ac.out) (yV c.out) (by decide) hg); replace a := mA (Zaq (g := E) (o := .cells #[.int .i64 D, .slice J u.length L, .slice O y.length M] 95 (0, 0)) (bP a.out) hg (zQ c.out a.out (by decide))); replace c := mA (hp_); replace HB := mA ((by rw [hw]; exact Za7 (HB.out) em.out : Below w.heap.size w dk)); clear hg hw hp_))
     go_roundg k1
     case measure => have := aa.out; omega
     case rel => exact ⟨(df), (wrap64 (x + 1)), (eW), H', ⟨by have := aa.out; omega⟩, ⟨rP ac.out⟩, ⟨rP c.out⟩, ⟨bP a.out⟩, ⟨bW⟩⟩
    subst bo
    rw [if_pos rfl] at H
    by_cases bp : x < (y.length : Int); rotate_left
    ·rw [if_neg bp] at H
     exact absurd H (by simp)
    rw [if_pos bp] at H
    have bz := dT bp
    clear bp
    obtain ⟨en, b3⟩ : ∃ b_ : Bool, b_ = (rdOf false y x) := ⟨_, rfl⟩
    rw [← b3] at H
    have bA := mA b3
    clear b3
    by_cases bq : en = true; rotate_left
    ·replace bq := Bool.eq_false_iff.mpr bq
     subst bq
     rw [iF] at H
     have H' := mA H
     clear H
     obtain ⟨e3, e4, eo⟩ := zP c.out
     subst eo
     obtain ⟨e5, e6, ep⟩ := zP ac.out
     subst ep
     have X : 0 ≤ (x : Int) := ofD
     have Y : x < (an.length : Int) := ofD
     obtain ⟨cO, bI, U⟩ := yC (zK ac.out).2.2 x X Y
     (try rw [← bd.out] at U)
     (try rw [← bA.out] at U)
     cases bI
     replace X := eq_true X
     replace Y := eq_true Y
     have aM : wr.cell? ⟨E, 0, none⟩ = some (.int .i64 D) := bc a 0
     have aN : wr.cell? ⟨E, 1, none⟩ = some (.slice J u.length L) := bc a 1
     have aQ : wr.cell? ⟨E, 2, none⟩ = some (.slice O y.length M) := bc a 2
     have aR := Zae a.out 0
     have aT := Zae a.out 1
     have aU := Zae a.out 2
     have af : 0 ≤ (x : Int) := ofD
     have ag : x < (y.length : Int) := ofD
     obtain ⟨cQ, cu, I⟩ := yC ba.out x af ag
     (try rw [← bd.out] at I)
     (try rw [← bA.out] at I)
     cases cu
     replace I := (HB.out.cell (wB w I)).trans I
     replace af := eq_true af
     replace ag := eq_true ag
     go_wp2
     go_roundg k1
     case measure => have := aa.out; omega
     case rel => exact ⟨(ab), (wrap64 (x + 1)), (eW), H', ⟨by have := aa.out; omega⟩, ⟨rP ac.out⟩, ⟨rP c.out⟩, ⟨bP a.out⟩, ⟨bW⟩⟩
    subst bq
    rw [if_pos rfl] at H
    obtain ⟨dl, b4⟩ : ∃ y_ : List Int, y_ = (ab.set (x : Int).toNat 1) := ⟨_, rfl⟩
    rw [← b4] at H
    have dQ := mA b4
    clear b4
    have H' := mA H
    clear H
    obtain ⟨e7, dm, er⟩ := zP c.out
    subst er
    obtain ⟨e8, e9, es⟩ := zP ac.out
    subst es
    have X : 0 ≤ (x : Int) := ofD
    have Y : x < (an.length : Int) := ofD
    obtain ⟨cO, bI, U⟩ := yC (zK ac.out).2.2 x X Y
    (try rw [← bd.out] at U)
    (try rw [← bA.out] at U)
    cases bI
    replace X := eq_true X
    replace Y := eq_true Y
    have aV : wr.cell? ⟨E, 0, none⟩ = some (.int .i64 D) := bc a 0
    have aW : wr.cell? ⟨E, 1, none⟩ = some (.slice J u.length L) := bc a 1
    have aX : wr.cell? ⟨E, 2, none⟩ = some (.slice O y.length M) := bc a 2
    have aY := Zae a.out 0
    have aZ := Zae a.out 1
    have a0 := Zae a.out 2
    have af : 0 ≤ (x : Int) := ofD
    have ag : x < (y.length : Int) := ofD
    obtain ⟨cQ, cu, I⟩ := yC ba.out x af ag
    (try rw [← bd.out] at I)
    (try rw [← bA.out] at I)
    cases cu
    replace I := (HB.out.cell (wB w I)).trans I
    replace af := eq_true af
    replace ag := eq_true ag
    have aG : 0 ≤ (x : Int) := ofD
    have aH : (x : Int) < ((ab.length : Int) : Int) := ofD
    obtain ⟨b5, fa, dn, dp, et, fb, dq⟩ := yM c.out (by omega)
    (first | cases dn | (injection dn with ea_ en_ ec_; (first | subst ea_ | (injection ea_ with ea_; subst ea_)); subst ec_; clear en_))
    have eu := mA dp
    have fc := mA dq
    clear dp et dq
    obtain ⟨bg, eJ⟩ := yF 0 c.out (x : Int) aG aH
    replace aG := eq_true aG
    replace aH := eq_true aH
    have cv := yG c.out (x : Int) 1
    go_wp2_with (first | ((with_reducible refine Zbl (t := 2) (p := 38) rfl ?_); refine Zc2 (t := 2) (p := 38) (w1 := (wr.setCell ⟨b5, (x : Int).toNat, none⟩ (.int .i64 1))) ?_; intro dr hw; have hg : wr.grownBy dr (some b5) := (by rw [hw]; exact cv.2); have hp_ : Kd.R (Kd.int .i64) 2 dr w.heap.size (fun _ => True) (.slice (some ⟨b5, 0, none⟩) ab.length dm) dl := (by rw [hw, dQ.out]; exact cv.1); clear cv; replace ac := mA (yH (v := (.slice (some ⟨b5, 0, none⟩) ab.length dm)) (rP ac.out) (yV c.out) (by decide) hg); replace a := mA (Zaq (g := E) (o := .cells #[.int .i64 D, .slice J u.length L, .slice (some cQ) y.length M] 95 (0, 0)) (bP a.out) hg (zQ c.out a.out (by decide))); replace c := mA (hp_); replace HB := mA ((by rw [hw]; exact Za7 (HB.out) eu.out : Below w.heap.size w dr)); clear hg hw hp_))
    go_roundg k1
    case measure => have := aa.out; omega
    case rel => exact ⟨(dl), (wrap64 (x + 1)), (eW), H', ⟨by have := aa.out; omega⟩, ⟨rP ac.out⟩, ⟨rP c.out⟩, ⟨bP a.out⟩, ⟨bW⟩⟩
   rw [if_neg a2] at H
   have bb := dF a2
   clear a2
   have H' := mA H
   clear H
   obtain ⟨fd, fe, ev⟩ := zP c.out
   subst ev
   go_wp2
   go_loopg [4, 6] k1 (fun kq v4 v6 w' => ∃ (m : List Int) (ae : Int), v6 = .int .i64 ae ∧ Zad (Zam.l1 kq m ae D u y = some r) ∧ Zad (kq ≤ k1) ∧ Zad (Kd.R (Kd.int .i64) 2 w' w.heap.size (fun _ => True) v4 m) ∧ Zad (w'.heap[E]? = some (.cells #[.int .i64 D, (.slice J u.length L), (.slice O y.length M)] 95 (0, 0))) ∧ Zad (Below w.heap.size w w'))
   case atStart => exact ⟨(ab), ((-1)), (eW), H', ⟨Nat.le_refl _⟩, ⟨rP c.out⟩, ⟨bP a.out⟩, ⟨bW⟩⟩
   case round =>
    clear H'
    try clear c1
    try clear p1
    try clear q1
    try clear hx1
    try clear hf1
    try clear p2
    try clear q2
    try clear hx2
    try clear hf2
    try clear c3
    try clear bC
    try clear bD
    try clear c4
    try clear bF
    try clear bG
    try clear p6
    try clear c10
    try clear a2
    try clear bb
    try clear bm
    try clear bw
    try clear bn
    try clear bx
    try clear p14
    try clear q14
    try clear hx14
    try clear bo
    try clear bp
    try clear bz
    try clear q17
    try clear bq
    try clear aG
    try clear aH
    try clear hx19
    try clear hf19
    try clear aD
    try clear aE
    try clear hx28
    try clear hf28
    try clear aV
    try clear aW
    try clear aX
    try clear aM
    try clear aN
    try clear aQ
    try clear ao
    try clear ap
    try clear aq
    try clear aw
    try clear ax
    try clear ay
    try clear aY
    try clear aZ
    try clear a0
    try clear aR
    try clear aT
    try clear aU
    try clear ar
    try clear au
    try clear av
    try clear az
    try clear aA
    try clear aC
    try clear U
    try clear I
    try clear bg
    try clear bf
    try clear X
    try clear af
    try clear aG
    try clear p2
    try clear aD
    try clear Y
    try clear ag
    try clear aH
    try clear aE
    obtain ⟨m, ae, rfl, HA, ah, c, a, HB⟩ := hrel
    cases gk with
    | zero => exact absurd HA.out (by simp [Zam.l1])
    | succ k2 =>
     have H := HA.out
     clear HA
     simp only [Zam.l1] at H
     by_cases br : 0 ≤ (m.length : Int); rotate_left
     ·rw [if_neg br] at H
      exact absurd H (by simp)
     rw [if_pos br] at H
     have b6 := eq_true br
     have b7 := dT br
     clear br
     by_cases bs : ((m.length : Int) : Int).toNat ≤ 35184372088832; rotate_left
     ·rw [if_neg bs] at H
      exact absurd H (by simp)
     rw [if_pos bs] at H
     have b8 := eq_true bs
     have b9 := dT bs
     clear bs
     obtain ⟨dt, ca⟩ : ∃ y_ : List Int, y_ = (List.replicate ((m.length : Int) : Int).toNat 0) := ⟨_, rfl⟩
     rw [← ca] at H
     have cR := mA ca
     clear ca
     obtain ⟨du, cb⟩ : ∃ y_ : List Int, y_ = (([] : List Int)) := ⟨_, rfl⟩
     replace H : (Zam.l2 k2 m ae dt du 0 D u y) = some r := by rw [cb]; with_reducible exact H
     have cS := mA cb
     clear cb
     have H' := mA H
     clear H
     obtain ⟨a4, P, ew⟩ := zP c.out
     subst ew
     go_wp2_with (first | ((with_reducible refine Zap (N := 41) rfl ?_); refine xI (Kd.int .i64) _ 2 rfl (N := 41) rfl 33 _ _ rfl (m.length : Int) rfl rfl Try.underlying33 (.int .i64 0) 8 info2 rfl (by decide) (by omega) 0 (ok := fun _ => True) (okp := fun _ => True) rfl (fun _ hk => hk) trivial (ofD) (Nat.le_trans (Nat.mul_le_mul_right _ (ofD : (m.length : Int).toNat ≤ 35184372088832)) (by omega)) (Below.refl _ _) (Nat.le_refl _) ?_; intro cw fs bj hb hg_ hnew_; clear hg_ hnew_; (first | rw [← cR.out] at bj | (simp only [Int.reduceToNat] at bj; rw [← cR.out] at bj)); have bB := mA (zV (yA bj (zN (rP c.out))) (Zan (bW))); replace c := mA (zZ (rP c.out) (zT bj) hb); replace a := mA (blkB a.out hb); replace HB := mA (Zaf (bW) hb); clear hb bj) | ((with_reducible refine Zap (N := 42) rfl ?_); refine yS (Kd.int .i64) _ 2 ?hg (N := 42) ?hd (xs := ([] : List Int)) (inner := []) (ok := fun _ => True) (okp := fun _ => True) ?hr ?hp (fun _ hk => hk) trivial (Below.refl _ _) (Nat.le_refl _) (by simp) ?_; (case hd => rfl); (case hg => rfl); (case hr => first | (go_simp; done) | (go_simp; rfl)); (case hp => exact (Reps.none _ _)); intro ff ft a5 hb hg_ hnew_; clear hg_ hnew_; (first | rw [← cS.out] at a5 | (simp only [Int.reduceToNat] at a5; rw [← cS.out] at a5)); have dR := mA (zV (yA (yA a5 (zN (rP c.out))) (zN (rP bB.out))) (Zan (bW))); replace c := mA (zZ (rP c.out) (zT a5) hb); replace bB := mA (zZ (rP bB.out) (zT a5) hb); replace a := mA (blkB a.out hb); replace HB := mA (Zaf (bW) hb); clear hb a5))
     go_loopg [8, 9] k2 (fun kq v8 v9 w' => ∃ (T : List Int) (z : List Int) (d : Int), v9 = .int .i64 d ∧ Zad (Zam.l2 kq m ae T z d D u y = some r) ∧ Zad (kq ≤ k2) ∧ Zad (Kd.R (Kd.int .i64) 2 w' w.heap.size (fun k_ => some k_ ≠ (cw : Value).ownBlock ∧ some k_ ≠ (v8 : Value).ownBlock) (.slice a4 m.length P) m) ∧ Zad (Kd.R (Kd.int .i64) 2 w' w.heap.size (fun k_ => some k_ ≠ ((.slice a4 m.length P) : Value).ownBlock ∧ some k_ ≠ (v8 : Value).ownBlock) cw T) ∧ Zad (Kd.R (Kd.int .i64) 2 w' w.heap.size (fun k_ => some k_ ≠ ((.slice a4 m.length P) : Value).ownBlock ∧ some k_ ≠ (cw : Value).ownBlock) v8 z) ∧ Zad (w'.heap[E]? = some (.cells #[.int .i64 D, (.slice J u.length L), (.slice O y.length M)] 95 (0, 0))) ∧ Zad (Below w.heap.size w w'))
     case atStart => exact ⟨(dt), (du), (0), (eW), H', ⟨Nat.le_refl _⟩, ⟨by (with_reducible repeat (first | apply zD | apply zE | apply zA)); exact zC c.out (fun _ hk => ⟨hk.1.2, hk.2⟩)⟩, ⟨by (with_reducible repeat (first | apply zD | apply zE | apply zA)); exact zC bB.out (fun _ hk => ⟨hk.1.2, hk.2⟩)⟩, ⟨by (with_reducible repeat (first | apply zD | apply zE | apply zA)); exact zC dR.out (fun _ hk => ⟨hk.1.2, hk.2⟩)⟩, ⟨bP a.out⟩, ⟨bW⟩⟩
     case round =>
      clear H'
      try clear c1
      try clear p1
      try clear q1
      try clear hx1
      try clear hf1
      try clear p2
      try clear q2
      try clear hx2
      try clear hf2
      try clear c3
      try clear bC
      try clear bD
      try clear c4
      try clear bF
      try clear bG
      try clear p6
      try clear c10
      try clear a2
      try clear bb
      try clear bm
      try clear bw
      try clear bn
      try clear bx
      try clear p14
      try clear q14
      try clear hx14
      try clear bo
      try clear bp
      try clear bz
      try clear q17
      try clear bq
      try clear aG
      try clear aH
      try clear hx19
      try clear hf19
      try clear aD
      try clear aE
      try clear hx28
      try clear hf28
      try clear br
      try clear b6
      try clear b7
      try clear bs
      try clear b8
      try clear b9
      try clear aV
      try clear aW
      try clear aX
      try clear aM
      try clear aN
      try clear aQ
      try clear ao
      try clear ap
      try clear aq
      try clear aw
      try clear ax
      try clear ay
      try clear aY
      try clear aZ
      try clear a0
      try clear aR
      try clear aT
      try clear aU
      try clear ar
      try clear au
      try clear av
      try clear az
      try clear aA
      try clear aC
      try clear U
      try clear I
      try clear bg
      try clear bf
      try clear p1
      try clear p14
      try clear X
      try clear af
      try clear aG
      try clear p2
      try clear aD
      try clear p6
      try clear q1
      try clear q14
      try clear Y
      try clear ag
      try clear q17
      try clear aH
      try clear q2
      try clear aE
      obtain ⟨T, z, d, rfl, HA, ai, c, j, q, a, HB⟩ := hrel
      cases gk with
      | zero => exact absurd HA.out (by simp [Zam.l2])
      | succ k3 =>
       have H := HA.out
       clear HA
       simp only [Zam.l2] at H
       by_cases bu : d < (m.length : Int); rotate_left
       ·rw [if_neg bu] at H
        have cc := dF bu
        clear bu
        by_cases bJ : (z.length : Int) = ae
        ·rw [if_pos bJ] at H
         have dS : ((z.length : Int) == ae) = true := beq_iff_eq.mpr bJ
         have dU : ((z.length : Int) != ae) = false := bne_eq_false_iff_eq.mpr bJ
         clear bJ
         obtain rfl := oI H
         obtain ⟨fg, fh, ey⟩ := zP q.out
         subst ey
         go_wp2
         go_ret
         exact ⟨_, eW, by (with_reducible repeat (first | apply zD | apply zE | apply zA)); exact zC j.out (fun _ hk => trivial), bW⟩
        rw [if_neg bJ] at H
        have dS : ((z.length : Int) == ae) = false := beq_eq_false_iff_ne.mpr bJ
        have dU : ((z.length : Int) != ae) = true := bne_iff_ne.mpr bJ
        have H' := mA H
        clear H
        obtain ⟨fi, fj, ez⟩ := zP q.out
        subst ez
        go_wp2
        go_roundg k3
        case measure => have := aa.out; have := ah.out; have := ai.out; omega
        case rel => exact ⟨(T), ((z.length : Int)), (eW), H', ⟨by have := aa.out; have := ah.out; have := ai.out; omega⟩, ⟨by (with_reducible repeat (first | apply zD | apply zE | apply zA)); exact zC j.out (fun _ hk => trivial)⟩, ⟨bP a.out⟩, ⟨bW⟩⟩
       rw [if_pos bu] at H
       have cc := dT bu
       clear bu
       by_cases bR : 0 ≤ d; rotate_left
       ·rw [if_neg bR] at H
        exact absurd H (by simp)
       rw [if_pos bR] at H
       have cT := dT bR
       clear bR
       by_cases bS : d < (T.length : Int); rotate_left
       ·rw [if_neg bS] at H
        exact absurd H (by simp)
       rw [if_pos bS] at H
       have cU := dT bS
       clear bS
       obtain ⟨cd, ce⟩ : ∃ y_ : List Int, y_ = (T.set (d : Int).toNat (-1)) := ⟨_, rfl⟩
       replace H := bsm ce H
       have cV := mA ce
       clear ce
       by_cases bv : (rd m d) < 0
       ·rw [if_pos bv] at H
        have cf := dT bv
        clear bv
        have H' := mA H
        clear H
        have aI : 0 ≤ (d : Int) := ofD
        have aJ : (d : Int) < ((T.length : Int) : Int) := ofD
        obtain ⟨s, G, bK, bL, cx, eA, bM⟩ := yM j.out (by omega)
        (first | cases bK | (injection bK with ea_ en_ ec_; (first | subst ea_ | (injection ea_ with ea_; subst ea_)); subst ec_; clear en_))
        have bN := mA bL
        have eB := mA bM
        clear bL cx bM
        obtain ⟨bO, dv⟩ := yF 0 j.out (d : Int) aI aJ
        replace aI := eq_true aI
        replace aJ := eq_true aJ
        have cy := yG j.out (d : Int) (-1)
        go_wp2_with (first | ((with_reducible refine Zbl (t := 2) (p := 51) rfl ?_); refine Zc2 (t := 2) (p := 51) (w1 := (wr.setCell ⟨s, (d : Int).toNat, none⟩ (.int .i64 (-1)))) ?_; intro dw hw; have hg : wr.grownBy dw (some s) := (by rw [hw]; exact cy.2); have hp_ : Kd.R (Kd.int .i64) 2 dw w.heap.size (fun k_ => some k_ ≠ (.slice a4 m.length P : Value).ownBlock ∧ some k_ ≠ (u8 : Value).ownBlock) (.slice (some ⟨s, 0, none⟩) T.length G) cd := (by rw [hw, cV.out]; exact cy.1); clear cy; replace c := mA (zU (v := (.slice (some ⟨s, 0, none⟩) T.length G)) (v1 := (.slice (some ⟨s, 0, none⟩) T.length G)) (ok := (fun k_ => some k_ ≠ (u8 : Value).ownBlock)) (by (with_reducible repeat (first | apply zD | apply zE | apply zA)); exact zC c.out (fun _ hk => ⟨hk.2, hk.1⟩)) hg (.inl rfl)); replace q := mA (zU (v := (.slice (some ⟨s, 0, none⟩) T.length G)) (v1 := (.slice (some ⟨s, 0, none⟩) T.length G)) (ok := (fun k_ => some k_ ≠ (.slice a4 m.length P : Value).ownBlock)) (rP q.out) hg (.inl rfl)); replace a := mA (Zaq (g := E) (o := .cells #[.int .i64 D, .slice J u.length L, .slice O y.length M] 95 (0, 0)) (bP a.out) hg (zQ j.out a.out (by decide))); replace j := mA (hp_); replace HB := mA ((by rw [hw]; exact Za7 (HB.out) bN.out : Below w.heap.size w dw)); clear hg hw hp_; have al : 0 ≤ (d : Int) := ofD; have am : d < (m.length : Int) := ofD; obtain ⟨W, cz, bk⟩ := zO (zK c.out).2.2 d al am; cases cz; replace al := eq_true al; replace am := eq_true am))
        go_roundg k3
        case measure => have := aa.out; have := ah.out; have := ai.out; omega
        case rel => exact ⟨(cd), (z), (wrap64 (d + 1)), (eW), H', ⟨by have := aa.out; have := ah.out; have := ai.out; omega⟩, ⟨by (with_reducible repeat (first | apply zD | apply zE | apply zA)); exact zC c.out (fun _ hk => ⟨hk.2, hk.1⟩)⟩, ⟨rP j.out⟩, ⟨rP q.out⟩, ⟨bP a.out⟩, ⟨bW⟩⟩
       rw [if_neg bv] at H
       have cf := dF bv
       clear bv
       have H' := mA H
       clear H
       have aI : 0 ≤ (d : Int) := ofD
       have aJ : (d : Int) < ((T.length : Int) : Int) := ofD
       obtain ⟨s, G, bK, bL, cx, eA, bM⟩ := yM j.out (by omega)
       (first | cases bK | (injection bK with ea_ en_ ec_; (first | subst ea_ | (injection ea_ with ea_; subst ea_)); subst ec_; clear en_))
       have bN := mA bL
       have eB := mA bM
       clear bL cx bM
       obtain ⟨bO, dv⟩ := yF 0 j.out (d : Int) aI aJ
       replace aI := eq_true aI
       replace aJ := eq_true aJ
       have cA := yG j.out (d : Int) (-1)
       go_wp2_with (first | ((with_reducible refine Zbl (t := 2) (p := 51) rfl ?_); refine Zc2 (t := 2) (p := 51) (w1 := (wr.setCell ⟨s, (d : Int).toNat, none⟩ (.int .i64 (-1)))) ?_; intro dx hw; have hg : wr.grownBy dx (some s) := (by rw [hw]; exact cA.2); have hp_ : Kd.R (Kd.int .i64) 2 dx w.heap.size (fun k_ => some k_ ≠ (.slice a4 m.length P : Value).ownBlock ∧ some k_ ≠ (u8 : Value).ownBlock) (.slice (some ⟨s, 0, none⟩) T.length G) cd := (by rw [hw, cV.out]; exact cA.1); clear cA; replace c := mA (zU (v := (.slice (some ⟨s, 0, none⟩) T.length G)) (v1 := (.slice (some ⟨s, 0, none⟩) T.length G)) (ok := (fun k_ => some k_ ≠ (u8 : Value).ownBlock)) (by (with_reducible repeat (first | apply zD | apply zE | apply zA)); exact zC c.out (fun _ hk => ⟨hk.2, hk.1⟩)) hg (.inl rfl)); replace q := mA (zU (v := (.slice (some ⟨s, 0, none⟩) T.length G)) (v1 := (.slice (some ⟨s, 0, none⟩) T.length G)) (ok := (fun k_ => some k_ ≠ (.slice a4 m.length P : Value).ownBlock)) (rP q.out) hg (.inl rfl)); replace a := mA (Zaq (g := E) (o := .cells #[.int .i64 D, .slice J u.length L, .slice O y.length M] 95 (0, 0)) (bP a.out) hg (zQ j.out a.out (by decide))); replace j := mA (hp_); replace HB := mA ((by rw [hw]; exact Za7 (HB.out) bN.out : Below w.heap.size w dx)); clear hg hw hp_; have al : 0 ≤ (d : Int) := ofD; have am : d < (m.length : Int) := ofD; obtain ⟨W, cz, bk⟩ := zO (zK c.out).2.2 d al am; cases cz; replace al := eq_true al; replace am := eq_true am))
       go_loopg [10] k3 (fun kq v10 w' => ∃ (A : List Int) (B : Int), v10 = .int .i64 B ∧ Zad (Zam.l3 kq m ae A z d B D u y = some r) ∧ Zad (kq ≤ k3) ∧ Zad (Kd.R (Kd.int .i64) 2 w' w.heap.size (fun k_ => some k_ ≠ ((.slice (some ⟨s, 0, none⟩) T.length G) : Value).ownBlock ∧ some k_ ≠ (u8 : Value).ownBlock) (.slice (some W) m.length P) m) ∧ Zad (Kd.R (Kd.int .i64) 2 w' w.heap.size (fun k_ => some k_ ≠ ((.slice (some W) m.length P) : Value).ownBlock ∧ some k_ ≠ (u8 : Value).ownBlock) (.slice (some ⟨s, 0, none⟩) T.length G) A) ∧ Zad (Kd.R (Kd.int .i64) 2 w' w.heap.size (fun k_ => some k_ ≠ ((.slice (some W) m.length P) : Value).ownBlock ∧ some k_ ≠ ((.slice (some ⟨s, 0, none⟩) T.length G) : Value).ownBlock) u8 z) ∧ Zad (w'.heap[E]? = some (.cells #[.int .i64 D, (.slice J u.length L), (.slice O y.length M)] 95 (0, 0))) ∧ Zad (Below w.heap.size w w'))
       case atStart => exact ⟨(cd), (0), (eW), H', ⟨Nat.le_refl _⟩, ⟨by (with_reducible repeat (first | apply zD | apply zE | apply zA)); exact zC c.out (fun _ hk => ⟨hk.2, hk.1⟩)⟩, ⟨rP j.out⟩, ⟨rP q.out⟩, ⟨bP a.out⟩, ⟨bW⟩⟩
       case round =>
        clear H'
        try clear c1
        try clear p1
        try clear q1
        try clear hx1
        try clear hf1
        try clear p2
        try clear q2
        try clear hx2
        try clear hf2
        try clear c3
        try clear bC
        try clear bD
        try clear c4
        try clear bF
        try clear bG
        try clear p4
        try clear q4
        try clear hx4
        try clear hf4
        try clear p6
        try clear c10
        try clear a2
        try clear bb
        try clear bm
        try clear bw
        try clear bn
        try clear bx
        try clear p14
        try clear q14
        try clear hx14
        try clear bo
        try clear p15
        try clear q15
        try clear hx15
        try clear bp
        try clear bz
        try clear q17
        try clear bq
        try clear aG
        try clear aH
        try clear hx19
        try clear hf19
        try clear aD
        try clear aE
        try clear hx28
        try clear hf28
        try clear br
        try clear b6
        try clear b7
        try clear bs
        try clear b8
        try clear b9
        try clear bu
        try clear cc
        try clear bR
        try clear cT
        try clear bS
        try clear cU
        try clear aI
        try clear aJ
        try clear hx44
        try clear hf44
        try clear bv
        try clear cf
        try clear aV
        try clear aW
        try clear aX
        try clear aM
        try clear aN
        try clear aQ
        try clear ao
        try clear ap
        try clear aq
        try clear aw
        try clear ax
        try clear ay
        try clear aY
        try clear aZ
        try clear a0
        try clear aR
        try clear aT
        try clear aU
        try clear ar
        try clear au
        try clear av
        try clear az
        try clear aA
        try clear aC
        try clear U
        try clear I
        try clear bk
        try clear bg
        try clear bf
        try clear bO
        try clear p1
        try clear p14
        try clear X
        try clear af
        try clear al
        try clear aG
        try clear p2
        try clear aD
        try clear aI
        try clear p6
        try clear q1
        try clear q14
        try clear Y
        try clear ag
        try clear am
        try clear q17
        try clear aH
        try clear q2
        try clear aE
        try clear aJ
        obtain ⟨A, B, rfl, HA, a3, c, j, q, a, HB⟩ := hrel
        have l := (zK j.out).1
        rw [l] at j
        (try simp only [l])
        (try simp only [l] at a)
        (try simp only [l] at c)
        (try simp only [l] at q)
        cases gk with
        | zero => exact absurd HA.out (by simp [Zam.l3])
        | succ k4 =>
         have H := HA.out
         clear HA
         simp only [Zam.l3] at H
         have cB := mA H
         clear H
         go_upto_region 19 with (fail)
         go_cut [67] (fun v67 wc => ∃ (kq : Nat) (bh : Bool), v67 = .bool bh ∧ Zad (Zam.j4 kq m ae A z d B bh D u y = some r) ∧ Zad (kq ≤ k4) ∧ Zad (Kd.R (Kd.int .i64) 2 wc w.heap.size (fun k_ => some k_ ≠ ((.slice (some ⟨s, 0, none⟩) A.length G) : Value).ownBlock ∧ some k_ ≠ (u8 : Value).ownBlock) (.slice (some W) m.length P) m) ∧ Zad (Kd.R (Kd.int .i64) 2 wc w.heap.size (fun k_ => some k_ ≠ ((.slice (some W) m.length P) : Value).ownBlock ∧ some k_ ≠ (u8 : Value).ownBlock) (.slice (some ⟨s, 0, none⟩) A.length G) A) ∧ Zad (Kd.R (Kd.int .i64) 2 wc w.heap.size (fun k_ => some k_ ≠ ((.slice (some W) m.length P) : Value).ownBlock ∧ some k_ ≠ ((.slice (some ⟨s, 0, none⟩) A.length G) : Value).ownBlock) u8 z) ∧ Zad (wc.heap[E]? = some (.cells #[.int .i64 D, (.slice J u.length L), (.slice O y.length M)] 95 (0, 0))) ∧ Zad (Below w.heap.size w wc))
         case first =>
          have H := cB.out
          clear cB
          by_cases bQ : B < (z.length : Int); rotate_left
          ·rw [if_neg bQ] at H
           have aj := dF bQ
           (try (have cg := aj; simp only [l] at cg))
           clear bQ
           (first | rw [aj] | (simp only [i64_w, i32_w]; rw [aj]) | skip)
           have H' := mA H
           clear H
           obtain ⟨fk, fl, eC⟩ := zP q.out
           subst eC
           go_wp2
           go_meet
           case rel => exact ⟨_, (false), (eW), H', ⟨by have := aa.out; have := ah.out; have := ai.out; have := a3.out; first | omega | exact Nat.le_refl _⟩, ⟨by (try simp only [l]); exact rP c.out⟩, ⟨by (try simp only [l]); exact rP j.out⟩, ⟨by (try simp only [l]); exact rP q.out⟩, ⟨by (try simp only [l]); exact bP a.out⟩, ⟨bW⟩⟩
          rw [if_pos bQ] at H
          have aj := dT bQ
          (try (have cg := aj; simp only [l] at cg))
          clear bQ
          (first | rw [aj] | (simp only [i64_w, i32_w]; rw [aj]) | skip)
          by_cases co : 0 ≤ d; rotate_left
          ·rw [if_neg co] at H
           exact absurd H (by simp)
          rw [if_pos co] at H
          have dV := dT co
          clear co
          by_cases cp : d < (A.length : Int); rotate_left
          ·rw [if_neg cp] at H
           exact absurd H (by simp)
          rw [if_pos cp] at H
          have cW := dT cp
          (try (have dW := cW; simp only [l] at dW))
          clear cp
          have H' := mA H
          clear H
          obtain ⟨fm, fn, eD⟩ := zP q.out
          subst eD
          have ch : 0 ≤ (d : Int) := ofD
          have ci : d < (A.length : Int) := ofD
          obtain ⟨dX, eE, a1⟩ := zO (zK j.out).2.2 d ch ci
          obtain rfl : (⟨s, 0, none⟩ : Addr) = dX := (by injection eE)
          (first | simp only [Zcg] at a1 | simp only [add_at] at a1 | simp only [Addr.add, Nat.zero_add] at a1 | skip)
          replace ch := eq_true ch
          replace ci := eq_true ci
          go_wp2
          go_meet
          case rel => exact ⟨_, (decide ((rd A d) < 0)), (eW), H', ⟨by have := aa.out; have := ah.out; have := ai.out; have := a3.out; first | omega | exact Nat.le_refl _⟩, ⟨by (try simp only [l]); exact rP c.out⟩, ⟨by (try simp only [l]); exact rP j.out⟩, ⟨by (try simp only [l]); exact rP q.out⟩, ⟨by (try simp only [l]); exact bP a.out⟩, ⟨bW⟩⟩
         case rest =>
          clear cB
          try clear c1
          try clear p1
          try clear q1
          try clear hx1
          try clear hf1
          try clear p2
          try clear q2
          try clear hx2
          try clear hf2
          try clear c3
          try clear bC
          try clear bD
          try clear c4
          try clear bF
          try clear bG
          try clear p4
          try clear q4
          try clear hx4
          try clear hf4
          try clear c5
          try clear p6
          try clear c10
          try clear a2
          try clear bb
          try clear bm
          try clear bw
          try clear bn
          try clear bx
          try clear p14
          try clear q14
          try clear hx14
          try clear bo
          try clear p15
          try clear q15
          try clear hx15
          try clear bp
          try clear bz
          try clear p16
          try clear q16
          try clear hx16
          try clear q17
          try clear bq
          try clear aG
          try clear aH
          try clear hx19
          try clear hf19
          try clear aD
          try clear aE
          try clear hx28
          try clear hf28
          try clear br
          try clear b6
          try clear b7
          try clear bs
          try clear b8
          try clear b9
          try clear bu
          try clear cc
          try clear bR
          try clear cT
          try clear bS
          try clear cU
          try clear aI
          try clear aJ
          try clear hx44
          try clear hf44
          try clear bv
          try clear cf
          try clear bQ
          try clear aj
          try clear co
          try clear dV
          try clear cp
          try clear cW
          try clear aV
          try clear aW
          try clear aX
          try clear aM
          try clear aN
          try clear aQ
          try clear ao
          try clear ap
          try clear aq
          try clear aw
          try clear ax
          try clear ay
          try clear aY
          try clear aZ
          try clear a0
          try clear aR
          try clear aT
          try clear aU
          try clear ar
          try clear au
          try clear av
          try clear az
          try clear aA
          try clear aC
          try clear U
          try clear I
          try clear bk
          try clear a1
          try clear bg
          try clear bf
          try clear bO
          try clear p1
          try clear p14
          try clear X
          try clear af
          try clear p15
          try clear al
          try clear ch
          try clear aG
          try clear p2
          try clear aD
          try clear p4
          try clear aI
          try clear p6
          try clear q1
          try clear q14
          try clear Y
          try clear ag
          try clear q15
          try clear am
          try clear ci
          try clear q17
          try clear aH
          try clear q2
          try clear aE
          try clear q4
          try clear aJ
          obtain ⟨kq, bh, rfl, HA, aK, c, j, q, a, HB⟩ := hcut
          cases kq with
          | zero => exact absurd HA.out (by simp [Zam.j4])
          | succ bl =>
           have H := HA.out
           clear HA
           simp only [Zam.j4] at H
           by_cases cX : bh = true; rotate_left
           ·replace cX := Bool.eq_false_iff.mpr cX
            subst cX
            rw [iF] at H
            by_cases cY : 0 ≤ d; rotate_left
            ·rw [if_neg cY] at H
             exact absurd H (by simp)
            rw [if_pos cY] at H
            have eQ := dT cY
            clear cY
            by_cases cZ : d < (A.length : Int); rotate_left
            ·rw [if_neg cZ] at H
             exact absurd H (by simp)
            rw [if_pos cZ] at H
            have dY := dT cZ
            (try (have dZ := dY; simp only [l] at dZ))
            clear cZ
            by_cases bT : (rd A d) < 0; rotate_left
            ·rw [if_neg bT] at H
             have d0 := dF bT
             clear bT
             have H' := mA H
             clear H
             have a6 : 0 ≤ (d : Int) := ofD
             have a7 : d < (A.length : Int) := ofD
             obtain ⟨cj, cC, ad⟩ := zO (zK j.out).2.2 d a6 a7
             obtain rfl : (⟨s, 0, none⟩ : Addr) = cj := (by injection cC)
             (first | simp only [Zcg] at ad | simp only [add_at] at ad | simp only [Addr.add, Nat.zero_add] at ad | skip)
             replace a6 := eq_true a6
             replace a7 := eq_true a7
             go_wp2
             (try simp only [← l])
             go_roundg bl
             case measure => have := aa.out; have := ah.out; have := ai.out; have := a3.out; have := aK.out; omega
             case rel => exact ⟨(A), (z), (wrap64 (d + 1)), (eW), H', ⟨by have := aa.out; have := ah.out; have := ai.out; have := a3.out; have := aK.out; omega⟩, ⟨by (try simp only [l]); exact rP c.out⟩, ⟨by (try simp only [l]); exact rP j.out⟩, ⟨by (try simp only [l]); exact rP q.out⟩, ⟨by (try simp only [l]); exact bP a.out⟩, ⟨bW⟩⟩
            rw [if_pos bT] at H
            have d0 := dT bT
            clear bT
            obtain ⟨dy, ck⟩ : ∃ y_ : List Int, y_ = (A.set (d : Int).toNat (z.length : Int)) := ⟨_, rfl⟩
            rw [← ck] at H
            have d1 := mA ck
            clear ck
            by_cases c0 : z.length < 17592186044416; rotate_left
            ·rw [if_neg c0] at H
             exact absurd H (by simp)
            rw [if_pos c0] at H
            have d2 := mA c0
            clear c0
            obtain ⟨eF, cm⟩ : ∃ y_ : List Int, y_ = (z ++ [d]) := ⟨_, rfl⟩
            rw [← cm] at H
            have d3 := mA cm
            clear cm
            have H' := mA H
            clear H
            have a6 : 0 ≤ (d : Int) := ofD
            have a7 : d < (A.length : Int) := ofD
            obtain ⟨cj, cC, ad⟩ := zO (zK j.out).2.2 d a6 a7
            obtain rfl : (⟨s, 0, none⟩ : Addr) = cj := (by injection cC)
            (first | simp only [Zcg] at ad | simp only [add_at] at ad | simp only [Addr.add, Nat.zero_add] at ad | skip)
            replace a6 := eq_true a6
            replace a7 := eq_true a7
            obtain ⟨cD, cE, eG⟩ := zP q.out
            subst eG
            have dz : 0 ≤ (d : Int) := ofD
            have dA : (d : Int) < ((A.length : Int) : Int) := ofD
            obtain ⟨eK, eL⟩ := yF 0 j.out (d : Int) dz dA
            replace dz := eq_true dz
            replace dA := eq_true dA
            have cF := yG j.out (d : Int) (z.length : Int)
            go_wp2_with (first | ((with_reducible refine Zbl (t := 2) (p := 91) rfl ?_); refine Zc2 (t := 2) (p := 91) (w1 := (wc.setCell ⟨s, (d : Int).toNat, none⟩ (.int .i64 (z.length : Int)))) ?_; intro dB hw; have hg : wc.grownBy dB (some s) := (by rw [hw]; exact cF.2); have hp_ : Kd.R (Kd.int .i64) 2 dB w.heap.size (fun k_ => some k_ ≠ (.slice (some W) m.length P : Value).ownBlock ∧ some k_ ≠ (.slice cD z.length cE : Value).ownBlock) (.slice (some ⟨s, 0, none⟩) A.length G) dy := (by rw [hw, d1.out]; exact cF.1); clear cF; replace c := mA (zU (v := (.slice (some ⟨s, 0, none⟩) A.length G)) (v1 := (.slice (some ⟨s, 0, none⟩) A.length G)) (ok := (fun k_ => some k_ ≠ (.slice cD z.length cE : Value).ownBlock)) (by (with_reducible repeat (first | apply zD | apply zE | apply zA)); exact zC c.out (fun _ hk => ⟨hk.2, hk.1⟩)) hg (.inl rfl)); replace q := mA (zU (v := (.slice (some ⟨s, 0, none⟩) A.length G)) (v1 := (.slice (some ⟨s, 0, none⟩) A.length G)) (ok := (fun k_ => some k_ ≠ (.slice (some W) m.length P : Value).ownBlock)) (rP q.out) hg (.inl rfl)); replace a := mA (Zaq (g := E) (o := .cells #[.int .i64 D, .slice J u.length L, .slice O y.length M] 95 (0, 0)) (bP a.out) hg (zQ j.out a.out (by decide))); replace j := mA (hp_); replace HB := mA ((by rw [hw]; exact Za7 (HB.out) bN.out : Below w.heap.size w dB)); clear hg hw hp_) | ((with_reducible refine Zbp (b := .append) (xs := #[.tmp 92, .tmp 94]) rfl ?_); at_builtin; refine xN (Kd.int .i64) (w0 := w) w.heap.size rfl (.tmp 92) (.tmp 94) 33 2 (.int .i64 0) 8 rfl Try.underlying33 info2 rfl (by decide) (by omega) (.slice cD z.length cE) z d [.int .i64 d] (fun k_ => some k_ ≠ (.slice (some W) m.length P : Value).ownBlock ∧ some k_ ≠ (.slice (some ⟨s, 0, none⟩) A.length G : Value).ownBlock) (fun _ => False) rfl rfl ?aP (fun _ hk => hk.elim) ?aF ?aO ?aB ?aS ?aL ?_; (case aP => exact rfl); (case aB => exact (bW)); (case aF => exact (fun k_ hk => ⟨zY (zN (rP c.out)) k_ hk, zY (zN (rP j.out)) k_ hk⟩)); (case aO => exact (rP q.out)); (case aS => exact (Zan (bW))); (case aL => have := d2.out; omega); intro fo fu ho hb hg hat; rw [← d3.out] at ho; replace c := mA (zU (ok := (fun k_ => some k_ ≠ (.slice (some ⟨s, 0, none⟩) A.length G : Value).ownBlock)) (by (with_reducible repeat (first | apply zD | apply zE | apply zA)); exact zC c.out (fun _ hk => ⟨hk.2, hk.1⟩)) hg hat); replace j := mA (zU (ok := (fun k_ => some k_ ≠ (.slice (some W) m.length P : Value).ownBlock)) (rP j.out) hg hat); replace a := mA (Zaq (g := E) (o := .cells #[.int .i64 D, .slice J u.length L, .slice O y.length M] 95 (0, 0)) (bP a.out) hg (zQ q.out a.out (by decide))); replace HB := mA (hb); have d4 := mA (ho); clear q ho hb hg hat))
            (try simp only [← l])
            go_roundg bl
            case measure => have := aa.out; have := ah.out; have := ai.out; have := a3.out; have := aK.out; omega
            case rel => exact ⟨(dy), (eF), (wrap64 (d + 1)), (eW), H', ⟨by have := aa.out; have := ah.out; have := ai.out; have := a3.out; have := aK.out; omega⟩, ⟨by (try simp only [l]); exact rP c.out⟩, ⟨by (try simp only [l]); exact rP j.out⟩, ⟨by (try simp only [l]); exact rP d4.out⟩, ⟨by (try simp only [l]); exact bP a.out⟩, ⟨bW⟩⟩
           subst cX
           rw [if_pos rfl] at H
           by_cases da : 0 ≤ B; rotate_left
           ·rw [if_neg da] at H
            exact absurd H (by simp)
           rw [if_pos da] at H
           have eR := dT da
           clear da
           by_cases db : B < (z.length : Int); rotate_left
           ·rw [if_neg db] at H
            exact absurd H (by simp)
           rw [if_pos db] at H
           have d5 := dT db
           (try (have d6 := d5; simp only [l] at d6))
           clear db
           replace H := bE H
           obtain ⟨eH, dC, H⟩ := H
           have ed := mA dC
           clear dC
           by_cases dc : eH = true; rotate_left
           ·replace dc := Bool.eq_false_iff.mpr dc
            subst dc
            rw [iF] at H
            have H' := mA H
            clear H
            try go_wp2
            replace c := mA (zA c.out)
            replace j := mA (zA j.out)
            replace q := mA (zA q.out)
            replace a := mA (Zab a.out)
            replace HB := mA (Za3 HB.out)
            obtain ⟨fp, fq, dD⟩ := zP q.out
            (first | subst dD | (injection dD with cq dE cr; have dG := cq.symm; have dH := cr.symm; clear cq dE cr; subst dG; subst dH))
            have a8 : 0 ≤ (B : Int) := ofD
            have a9 : B < (z.length : Int) := ofD
            obtain ⟨bi, cG, ak⟩ := zO (zK q.out).2.2 B a8 a9
            cases cG
            replace a8 := eq_true a8
            replace a9 := eq_true a9
            refine start_ (n := 8) (S := fun w' => w'.cell? ⟨E, 0, none⟩ = some (.int .i64 D) ∧ w'.cell? ⟨E, 1, none⟩ = some (.slice J u.length L) ∧ w'.cell? ⟨E, 2, none⟩ = some (.slice O y.length M) ∧ w'.cell? (bi.add (B).toNat) = some (.int .i64 (rd z B))) (ds := []) #[false, false, false, false, false, false, false, false] (by kernel_rfl) rfl rfl ⟨bc a 0, bc a 1, bc a 2, ak⟩ (fun hHeld => ?_); refine Zc0 Zam.tab21 Zam.bits21 (fun HT_ HW_ => ?_)
            generalize wc.drew = w69 at c j q a HB ak hHeld ⊢
            refine Zav (i := 1) (N := some 71) (Zaw HT_.out (by kernel_rfl)) ?_
            refine Zav (i := 2) (N := some 72) (Zaw HT_.out (by kernel_rfl)) ?_
            refine Zav (i := 3) (N := some 73) (Zaw HT_.out (by kernel_rfl)) ?_
            refine Zav (i := 4) (N := some 74) (Zaw HT_.out (by kernel_rfl)) ?_
            refine Zav (i := 5) (N := some 75) (Zaw HT_.out (by kernel_rfl)) ?_
            refine Zbt (i := 0) (N := some 70) (Zbb HT_.out HW_.out (by kernel_rfl)) hHeld ?_
            refine Zbt (i := 6) (N := some 76) (Zbb HT_.out HW_.out (by kernel_rfl)) hHeld ?_
            refine one_ (i := 7) (N := some 77) #[true, true, true, true, true, true, true, true] rfl rfl (Zb4 HT_.out (by kernel_rfl)) (by decide) (fun K hK => ?_)
            refine goes_ Try.func113 (by kernel_rfl) rfl #[.agg #[.int .i64 D, .slice J u.length L, .slice O y.length M], .slice (some W) m.length P, .int .i64 d, .int .i64 (rd z B)] (by rfl) rfl rfl (by (try simp only [List.map_toArray, List.map_cons, List.map_nil]); first | done | rfl | (simp only [List.length_drop, List.length_take]; rfl)) ?_
            with_reducible refine (Zbq.calls bl D _ _ u _ _ y _ _ m d (rd z B) false _ ?side1 ?side2 ?side3 ?side4 ?side5 ?side6 ed.out).mono ?_
            (case side1 => exact cP (zL bU.out HB.out))
            (case side2 => exact bV.out)
            (case side3 => exact cP (zL ba.out HB.out))
            (case side4 => exact bX.out)
            (case side5 => exact cP ((zK c.out).2.2))
            (case side6 => exact (zK c.out).2.1)
            rintro e fv ⟨rfl, hb⟩
            have cH := (hb.cell (World.block_lt_of_cell? _ _ (hHeld.2.2.2))).trans (hHeld.2.2.2)
            refine ⟨_, rfl, ?_⟩
            replace c := mA (zM (rP c.out) hb)
            replace j := mA (zM (rP j.out) hb)
            replace q := mA (zM (rP q.out) hb)
            replace a := mA (blkB a.out hb)
            replace HB := mA (Zaf (bW) hb)
            (try clear hb)
            (try clear hb2)
            (try clear hk)
            (try clear hi)
            refine hK.out _ _ ⟨bc a 0, bc a 1, bc a 2, cH⟩ (fun hHeld => ?_)
            clear hK K
            refine putS 77 ?_
            refine done_ (done_of HT_.out (by kernel_rfl)) ?_
            try go_wp2
            (try simp only [← l])
            go_roundg bl
            case measure => have := aa.out; have := ah.out; have := ai.out; have := a3.out; have := aK.out; omega
            case rel => exact ⟨(A), (wrap64 (B + 1)), (eW), H', ⟨by have := aa.out; have := ah.out; have := ai.out; have := a3.out; have := aK.out; omega⟩, ⟨by (try simp only [l]); exact rP c.out⟩, ⟨by (try simp only [l]); exact rP j.out⟩, ⟨by (try simp only [l]); exact rP q.out⟩, ⟨by (try simp only [l]); exact bP a.out⟩, ⟨bW⟩⟩
           subst dc
           rw [if_pos rfl] at H
           by_cases dd : 0 ≤ d; rotate_left
           ·rw [if_neg dd] at H
            exact absurd H (by simp)
           rw [if_pos dd] at H
           have eS := dT dd
           clear dd
           by_cases de : d < (A.length : Int); rotate_left
           ·rw [if_neg de] at H
            exact absurd H (by simp)
           rw [if_pos de] at H
           have d7 := dT de
           (try (have d8 := d7; simp only [l] at d8))
           clear de
           obtain ⟨dI, cn⟩ : ∃ y_ : List Int, y_ = (A.set (d : Int).toNat B) := ⟨_, rfl⟩
           rw [← cn] at H
           have d9 := mA cn
           clear cn
           have H' := mA H
           clear H
           try go_wp2
           replace c := mA (zA c.out)
           replace j := mA (zA j.out)
           replace q := mA (zA q.out)
           replace a := mA (Zab a.out)
           replace HB := mA (Za3 HB.out)
           obtain ⟨fr, dJ, dK⟩ := zP q.out
           (first | subst dK | (injection dK with cq dE cr; have dG := cq.symm; have dH := cr.symm; clear cq dE cr; subst dG; subst dH))
           have a8 : 0 ≤ (B : Int) := ofD
           have a9 : B < (z.length : Int) := ofD
           obtain ⟨bi, cG, ak⟩ := zO (zK q.out).2.2 B a8 a9
           cases cG
           replace a8 := eq_true a8
           replace a9 := eq_true a9
           refine start_ (n := 8) (S := fun w' => w'.cell? ⟨E, 0, none⟩ = some (.int .i64 D) ∧ w'.cell? ⟨E, 1, none⟩ = some (.slice J u.length L) ∧ w'.cell? ⟨E, 2, none⟩ = some (.slice O y.length M) ∧ w'.cell? (bi.add (B).toNat) = some (.int .i64 (rd z B))) (ds := []) #[false, false, false, false, false, false, false, false] (by kernel_rfl) rfl rfl ⟨bc a 0, bc a 1, bc a 2, ak⟩ (fun hHeld => ?_); refine Zc0 Zam.tab21 Zam.bits21 (fun HT_ HW_ => ?_)
           generalize wc.drew = w64 at c j q a HB ak hHeld ⊢
           refine Zav (i := 1) (N := some 71) (Zaw HT_.out (by kernel_rfl)) ?_
           refine Zav (i := 2) (N := some 72) (Zaw HT_.out (by kernel_rfl)) ?_
           refine Zav (i := 3) (N := some 73) (Zaw HT_.out (by kernel_rfl)) ?_
           refine Zav (i := 4) (N := some 74) (Zaw HT_.out (by kernel_rfl)) ?_
           refine Zav (i := 5) (N := some 75) (Zaw HT_.out (by kernel_rfl)) ?_
           refine Zbt (i := 0) (N := some 70) (Zbb HT_.out HW_.out (by kernel_rfl)) hHeld ?_
           refine Zbt (i := 6) (N := some 76) (Zbb HT_.out HW_.out (by kernel_rfl)) hHeld ?_
           refine one_ (i := 7) (N := some 77) #[true, true, true, true, true, true, true, true] rfl rfl (Zb4 HT_.out (by kernel_rfl)) (by decide) (fun K hK => ?_)
           refine goes_ Try.func113 (by kernel_rfl) rfl #[.agg #[.int .i64 D, .slice J u.length L, .slice O y.length M], .slice (some W) m.length P, .int .i64 d, .int .i64 (rd z B)] (by rfl) rfl rfl (by (try simp only [List.map_toArray, List.map_cons, List.map_nil]); first | done | rfl | (simp only [List.length_drop, List.length_take]; rfl)) ?_
           with_reducible refine (Zbq.calls bl D _ _ u _ _ y _ _ m d (rd z B) true _ ?side1 ?side2 ?side3 ?side4 ?side5 ?side6 ed.out).mono ?_
           (case side1 => exact cP (zL bU.out HB.out))
           (case side2 => exact bV.out)
           (case side3 => exact cP (zL ba.out HB.out))
           (case side4 => exact bX.out)
           (case side5 => exact cP ((zK c.out).2.2))
           (case side6 => exact (zK c.out).2.1)
           rintro e ee ⟨rfl, hb⟩
           have cH := (hb.cell (World.block_lt_of_cell? _ _ (hHeld.2.2.2))).trans (hHeld.2.2.2)
           refine ⟨_, rfl, ?_⟩
           replace c := mA (zM (rP c.out) hb)
           replace j := mA (zM (rP j.out) hb)
           replace q := mA (zM (rP q.out) hb)
           replace a := mA (blkB a.out hb)
           replace HB := mA (Zaf (bW) hb)
           (try clear hb)
           (try clear hb2)
           (try clear hk)
           (try clear hi)
           refine hK.out _ _ ⟨bc a 0, bc a 1, bc a 2, cH⟩ (fun hHeld => ?_)
           clear hK K
           refine putS 77 ?_
           refine done_ (done_of HT_.out (by kernel_rfl)) ?_
           have dL : 0 ≤ (d : Int) := ofD
           have dM : (d : Int) < ((A.length : Int) : Int) := ofD
           obtain ⟨eM, eN⟩ := yF 0 j.out (d : Int) dL dM
           replace dL := eq_true dL
           replace dM := eq_true dM
           obtain ⟨eT, eU⟩ := yF 0 j.out (d : Int) (ofD) (ofD)
           have cI := yG j.out (d : Int) B
           try go_wp2_with (first | ((with_reducible refine Zbl (t := 2) (p := 81) rfl ?_); refine Zc2 (t := 2) (p := 81) (w1 := (ee.setCell ⟨s, (d : Int).toNat, none⟩ (.int .i64 B))) ?_; intro dN hw; have hg : ee.grownBy dN (some s) := (by rw [hw]; exact cI.2); have hp_ : Kd.R (Kd.int .i64) 2 dN w.heap.size (fun k_ => some k_ ≠ (.slice (some W) m.length P : Value).ownBlock ∧ some k_ ≠ (.slice (some bi) z.length dJ : Value).ownBlock) (.slice (some ⟨s, 0, none⟩) A.length G) dI := (by rw [hw, d9.out]; exact cI.1); clear cI; replace c := mA (zU (v := (.slice (some ⟨s, 0, none⟩) A.length G)) (v1 := (.slice (some ⟨s, 0, none⟩) A.length G)) (ok := (fun k_ => some k_ ≠ (.slice (some bi) z.length dJ : Value).ownBlock)) (by (with_reducible repeat (first | apply zD | apply zE | apply zA)); exact zC c.out (fun _ hk => ⟨hk.2, hk.1⟩)) hg (.inl rfl)); replace q := mA (zU (v := (.slice (some ⟨s, 0, none⟩) A.length G)) (v1 := (.slice (some ⟨s, 0, none⟩) A.length G)) (ok := (fun k_ => some k_ ≠ (.slice (some W) m.length P : Value).ownBlock)) (rP q.out) hg (.inl rfl)); replace a := mA (Zaq (g := E) (o := .cells #[.int .i64 D, .slice J u.length L, .slice O y.length M] 95 (0, 0)) (bP a.out) hg (zQ j.out a.out (by decide))); replace j := mA (hp_); replace HB := mA ((by rw [hw]; exact Za7 (HB.out) bN.out : Below w.heap.size w dN)); clear hg hw hp_))
           (try simp only [← l])
           go_roundg bl
           case measure => have := aa.out; have := ah.out; have := ai.out; have := a3.out; have := aK.out; omega
           case rel => exact ⟨(dI), (wrap64 (B + 1)), (eW), H', ⟨by have := aa.out; have := ah.out; have := ai.out; have := a3.out; have := aK.out; omega⟩, ⟨by (try simp only [l]); (with_reducible repeat (first | apply zD | apply zE | apply zA)); exact zC c.out (fun _ hk => ⟨hk.2, hk.1⟩)⟩, ⟨by (try simp only [l]); exact rP j.out⟩, ⟨by (try simp only [l]); exact rP q.out⟩, ⟨by (try simp only [l]); exact bP a.out⟩, ⟨bW⟩⟩
end Go.Proofs.Ytgindgodfcfgkaa.P
end M0
