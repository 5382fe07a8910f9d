import Derived.Test.YtjdkedmdeajmgaaDoorCFnExactNormalAutomaton9
import Derived.Test.YtjdkedmdeajmgaaDoorCFnExactNormalAutomaton14
section M0
namespace Go.Proofs.YtjdkedmdeajmgaaDoor.P
open Go.RowKit Go.Proofs.YtjdkedmdeajmgaaDoor.Sh Go.Proofs.YtjdkedmdeajmgaaDoorW.PrintWords Go.Proofs.YtjdkedmdeajmgaaDoorW.PrintLast Go.Proofs.YtjdkedmdeajmgaaDoorW.PrintMore
open Kd
attribute [local go_sem] Zcf Zch Zcv Zcu Zb6 Zb7 Zcg Zce   -- for this text's walks alone
set_option linter.unusedVariables false
set_option linter.unusedSimpArgs false
mutual
def Zan.l0 : Nat → List Bool → List Int → Int → Int → Int → Int → List Bool → List (List Int) → Option (List Int)
 | 0, _, _, _, _, _, _, _, _ => none
 | k + 1, x1, x5, g, b, c, d, a, e => if b < g then (if 0 ≤ b then (if b < (x1.length : Int) then (if rdOf false x1 b = true then (if b < (a.length : Int) then (if rdOf false a b = true then (if b < (x5.length : Int) then (Zan.l0 k x1 (x5.set (b : Int).toNat 1) g (wrap64 (b + 1)) c d a e) else (none)) else (Zan.l0 k x1 x5 g (wrap64 (b + 1)) c d a e)) else (none)) else (if b < (x5.length : Int) then (Zan.l0 k x1 (x5.set (b : Int).toNat (-1)) g (wrap64 (b + 1)) c d a e) else (none))) else (none)) else (none)) else (Zan.l1 k x5 0 c d a e)
def Zan.l1 : Nat → List Int → Int → Int → Int → List Bool → List (List Int) → Option (List Int)
 | 0, _, _, _, _, _, _ => none
 | k + 1, x5, x7, a, b, c, d => if 0 ≤ (x5.length : Int) then (if ((x5.length : Int) : Int).toNat ≤ 35184372088832 then (Zan.l2 k x5 x7 (List.replicate ((x5.length : Int) : Int).toNat 0) (x5.length : Int) 0 a b c d ([] : List (ByteArray × Int))) else (none)) else (none)
def Zan.l2 : Nat → List Int → Int → List Int → Int → Int → Int → Int → List Bool → List (List Int) → List (ByteArray × Int) → Option (List Int)
 | 0, _, _, _, _, _, _, _, _, _, _ => none
 | k + 1, x5, x7, x9, h, a, b, d, e, g, c => if a < h then (if 0 ≤ a then (if a < (x5.length : Int) then (if (rd x5 a) < 0 then (if a < (x9.length : Int) then (Zan.l2 k x5 x7 (x9.set (a : Int).toNat (-1)) h (wrap64 (a + 1)) b d e g c) else (none)) else ((Zb4.f k (([(rd x5 a) / 256, Go.bits .and .i64 (rd x5 a) 255] : List Int))).bind fun i => (if i.size ≤ 140737488355328 then (Zan.l3 k x5 x7 x9 a (bytesOf i) h a b 0 b d e g c) else (none)))) else (none)) else (none)) else (if (c.length : Int) = x7 then (some x9) else (Zan.l1 k x9 (c.length : Int) b d e g))
def Zan.l3 : Nat → List Int → Int → List Int → Int → List Int → Int → Int → Int → Int → Int → Int → List Bool → List (List Int) → List (ByteArray × Int) → Option (List Int)
 | 0, _, _, _, _, _, _, _, _, _, _, _, _, _, _ => none
 | k + 1, x5, x7, x9, c, i, j, l, m, h, d, e, g, a, b => if h < m then (if 0 ≤ c then (if c < (a.length : Int) then (if 0 ≤ h then (if h < ((Zam a c).length : Int) then (if (rd (Zam a c) h) ≥ 0 then (if 0 ≤ (rd (Zam a c) h) then (if (rd (Zam a c) h) < (x5.length : Int) then ((some (([((rd x5 (rd (Zam a c) h)) / 256) % 256, (rd x5 (rd (Zam a c) h)) % 256] : List Int) : List Int)).bind fun n => (if i.length + n.length < 140737488355328 then (Zan.l3 k x5 x7 x9 c (i ++ n) j l m (wrap64 (h + 1)) d e g a b) else (none))) else (none)) else (none)) else ((some (([((-1) / 256) % 256, ((-1)) % 256] : List Int) : List Int)).bind fun o => (if i.length + o.length < 140737488355328 then (Zan.l3 k x5 x7 x9 c (i ++ o) j l m (wrap64 (h + 1)) d e g a b) else (none)))) else (none)) else (none)) else (none)) else (none)) else (if (mhas b (strOfNums i) = true) then (if 0 ≤ c then (if c < (x9.length : Int) then (Zan.l2 k x5 x7 (x9.set (c : Int).toNat (mget 0 b (strOfNums i))) j (wrap64 (l + 1)) d e g a b) else (none)) else (none)) else (if 0 ≤ c then (if c < (x9.length : Int) then (Zan.l2 k x5 x7 (x9.set (c : Int).toNat (b.length : Int)) j (wrap64 (l + 1)) d e g a (mset b (strOfNums i) (b.length : Int))) else (none)) else (none)))
end
def Zan.f (k : Nat) (c : Int) (d : Int) (e : List Bool) (a : List (List Int)) (l1 : List Bool) : Option (List Int) := if 0 ≤ (a.length : Int) then (if ((a.length : Int) : Int).toNat ≤ 35184372088832 then ((some (List.replicate ((a.length : Int) : Int).toNat 0 : List Int)).bind fun b => (Zan.l0 k l1 b (b.length : Int) 0 c d e a)) else (none)) else (none)
def Zan.T17 : Bool × List (List Nat × List Nat) := (true, [([], []), ([], []), ([0, 1], [0, 1]), ([2], [2]), ([3], [3]), ([], []), ([], []), ([5, 6], [5, 6]), ([7], [7]), ([8], [8]), ([4, 9], [4, 9]), ([10], [10]), ([11], [11]), ([12, 11, 0, 1, 2, 3, 4, 5, 6, 7, 8, 9, 10, 11, 12], [12])])
def Zan.B17 : List Nat := [0, 0, 3, 7, 15, 0, 0, 96, 224, 480, 1023, 2047, 4095, 8191]
theorem Zan.tab17 : rtab .any (opsOf Tryd.f131 17) = Zan.T17 := by kernel_rfl
theorem Zan.bits17 : Zcb Zan.T17.2 Zan.B17 = true := by kernel_rfl
set_option maxHeartbeats 8000000 in
set_option maxRecDepth 100000 in
theorem Zan.calls (k : Nat) (I : Int) (J : Int) (X : Option Addr) (U : Nat) (D : List Bool) (Y : Option Addr) (W : Nat) (u : List (List Int)) (A1 : Option Addr) (c1 : Nat) (l1 : List Bool) (r : List Int) (w : World) (b4 : Kd.C Kd.bool w X D.length D) (b5 : D.length ≤ U) (b6 : Kd.C (Kd.slice 2 (Kd.int .i64)) w Y u.length u) (b7 : u.length ≤ W) (eo : Kd.C Kd.bool w A1 l1.length l1) (ep : l1.length ≤ c1) (h : Zan.f k I J D u l1 = some r) :
  Calls Tryd.prog 131 #[.agg #[.int .i64 I, .int .i64 J, .slice X D.length U, .slice Y u.length W], .slice A1 l1.length c1] w fun e w' => ∃ er : Value, e = .returned (er) ∧ Kd.R (Kd.int .i64) 2 w' w.heap.size (fun _ => True) er r ∧ Below w.heap.size w w' := by
 have gy := Tryd.underlying77
 have b8 := mA b4
 have f6 := mA b5
 clear b4 b5
 have b9 := mA b6
 have f7 := mA b7
 clear b6 b7
 have cF := mA eo
 have gT := mA ep
 clear eo ep
 have HB := mA (Below.refl w.heap.size w)
 unfold Zan.f at h
 have H := h
 clear h
 by_cases c3 : 0 ≤ (u.length : Int); rotate_left
 ·rw [if_neg c3] at H
  exact absurd H (by simp)
 rw [if_pos c3] at H
 have eN := eq_true c3
 have eO := dT c3
 clear c3
 by_cases c4 : ((u.length : Int) : Int).toNat ≤ 35184372088832; rotate_left
 ·rw [if_neg c4] at H
  exact absurd H (by simp)
 rw [if_pos c4] at H
 have eP := eq_true c4
 have eQ := dT c4
 clear c4
 obtain ⟨bi, bj⟩ : ∃ y_ : List Int, y_ = (List.replicate ((u.length : Int) : Int).toNat 0) := ⟨_, rfl⟩
 replace H := bsm bj H
 have ca := mA bj
 clear bj
 have H' := mA H
 clear H
 go_enter Tryd.func131, Tryd.ntmps131
 go_wp2_with (first | ((with_reducible refine Zat (N := 2) rfl ?_); refine boxS (N := 2) (cs := #[.int .i64 I, .int .i64 J, .slice X D.length U, .slice Y u.length W]) (t := 77) ?_; intro y hg w5 hbox hb; have a := mA (hbox); have f8 := geW (w := w) hg; have f9 := geW (w := w) hg; replace HB := mA (Zaf (bW) hb); clear hb hbox hg; obtain ⟨cG, cH, cI, cJ⟩ := Zbl a.out; obtain ⟨cK, cL, cM, cN⟩ := frz4 a.out) | ((with_reducible refine Zat (N := 20) rfl ?_); refine xB (Kd.int .i64) _ 2 rfl (N := 20) rfl 22 _ _ rfl (u.length : Int) rfl rfl Tryd.underlying22 (.int .i64 0) 8 Zci rfl (by decide) (by omega) 0 (ok := fun _ => True) (okp := fun _ => True) rfl (fun _ hk => hk) trivial (ofD) (Nat.le_trans (Nat.mul_le_mul_right _ (ofD : (u.length : Int).toNat ≤ 35184372088832)) (by omega)) (Below.refl _ _) (Nat.le_refl _) ?_; intro gz w7 bH hb hg_ hnew_; clear hg_ hnew_; (first | rw [← ca.out] at bH | (simp only [Int.reduceToNat] at bH; rw [← ca.out] at bH)); have cb := mA (zS bH (Zaj (bW))); replace a := mA (blkB a.out hb); replace HB := mA (Zaf (bW) hb); clear hb bH; obtain ⟨fQ, cO, fR⟩ := zP cb.out; subst fR))
 go_loopg [23] k (fun kq v23 w' => ∃ (ah : List Int) (z : Int), v23 = .int .i64 z ∧ Zac (Zan.l0 kq l1 ah (bi.length : Int) z I J D u = some r) ∧ Zac (kq ≤ k) ∧ Zac (Kd.R (Kd.int .i64) 2 w' w.heap.size (fun _ => True) (.slice fQ bi.length cO) ah) ∧ Zac (w'.heap[y]? = some (.cells #[.int .i64 I, .int .i64 J, (.slice X D.length U), (.slice Y u.length W)] 77 (0, 0))) ∧ Zac (Below w.heap.size w w'))
 case atStart => exact ⟨(bi), (0), (eW), H', ⟨Nat.le_refl _⟩, ⟨rP cb.out⟩, ⟨bP a.out⟩, ⟨bW⟩⟩
 case round =>
  clear H' eN eO eP eQ cG cH cI cJ cK cL cM cN
  obtain ⟨ah, z, rfl, HA, ae, m, a, HB⟩ := hrel
  have l := (zJ m.out).1
  rw [l] at m
  (try simp only [l])
  (try simp only [l] at a)
  cases gk with
  | zero => exact absurd HA.out (by simp [Zan.l0])
  | succ k1 =>
   have H := HA.out
   clear HA
   simp only [Zan.l0] at H
   by_cases c10 : z < (bi.length : Int)
   ·rw [if_pos c10] at H
    have a1 := dT c10
    (try (have bk := a1; simp only [l] at bk))
    clear c10
    obtain ⟨ga, H⟩ := gE H
    obtain ⟨dJ, H⟩ := gE H
    (try (have dK := dJ; simp only [l] at dK))
    obtain ⟨eR, ax⟩ := nm (rdOf false l1 z)
    rw [← ax.out] at H
    by_cases cc : eR = true; rotate_left
    ·replace cc := Bool.eq_false_iff.mpr cc
     subst cc
     rw [iF] at H
     obtain ⟨dL, H⟩ := gE H
     (try (have dM := dL; simp only [l] at dM))
     obtain ⟨cQ, cd⟩ := nm ((ah.set (z : Int).toNat (-1)) : List Int)
     rw [← cd.out] at H
     have H' := mA H
     clear H
     have ai : 0 ≤ (z : Int) := ofD
     have aj : z < (l1.length : Int) := ofD
     obtain ⟨ce, a4, G⟩ := yD cF.out z ai aj
     (try rw [← ax.out] at G)
     cases a4
     replace G := (HB.out.cell (wB w G)).trans G
     replace ai := eq_true ai
     replace aj := eq_true aj
     have cR : 0 ≤ (z : Int) := ofD
     have cS : (z : Int) < ((ah.length : Int) : Int) := ofD
     obtain ⟨bN, gA, cT, cU, eS, gB, cV⟩ := yK m.out (by omega)
     (first | cases cT | (injection cT with ea_ en_ ec_; (first | subst ea_ | (injection ea_ with ea_; subst ea_)); subst ec_; clear en_))
     have eT := mA cU
     have gC := mA cV
     clear cU eS cV
     obtain ⟨fS, fT⟩ := yF 0 m.out (z : Int) cR cS
     replace cR := eq_true cR
     replace cS := eq_true cS
     have bO := yI m.out (z : Int) (-1)
     go_wp2_with (first | ((with_reducible refine Zbq (t := 2) (p := 34) rfl ?_); refine Zdg (t := 2) (p := 34) (w1 := (wr.setCell ⟨bN, (z : Int).toNat, none⟩ (.int .i64 (-1)))) ?_; intro cW hw; have hg : wr.grownBy cW (some bN) := (by rw [hw]; exact bO.2); have hp_ : Kd.R (Kd.int .i64) 2 cW w.heap.size (fun _ => True) (.slice (some ⟨bN, 0, none⟩) ah.length cO) cQ := (by rw [hw, cd.out]; exact bO.1); clear bO; replace a := mA (Zah (g := y) (o := .cells #[.int .i64 I, .int .i64 J, .slice X D.length U, .slice Y u.length W] 77 (0, 0)) (bP a.out) hg (zN m.out a.out (by decide))); replace m := mA (hp_); replace HB := mA ((by rw [hw]; exact Za9 (HB.out) eT.out : Below w.heap.size w cW)); clear hg hw hp_))
     (try simp only [← l])
     go_roundg k1
     case measure => have := ae.out; omega
     case rel => exact ⟨(cQ), (wrap64 (z + 1)), (eW), H', ⟨by have := ae.out; omega⟩, ⟨by (try simp only [l]); exact rP m.out⟩, ⟨by (try simp only [l]); exact bP a.out⟩, ⟨bW⟩⟩
    subst cc
    rw [if_pos rfl] at H
    obtain ⟨dN, H⟩ := gE H
    (try (have dO := dN; simp only [l] at dO))
    obtain ⟨eU, aH⟩ := nm (rdOf false D z)
    rw [← aH.out] at H
    by_cases cf : eU = true; rotate_left
    ·replace cf := Bool.eq_false_iff.mpr cf
     subst cf
     rw [iF] at H
     have H' := mA H
     clear H
     have ai : 0 ≤ (z : Int) := ofD
     have aj : z < (l1.length : Int) := ofD
     obtain ⟨ce, a4, G⟩ := yD cF.out z ai aj
     (try rw [← ax.out] at G)
     (try rw [← aH.out] at G)
     cases a4
     replace G := (HB.out.cell (wB w G)).trans G
     replace ai := eq_true ai
     replace aj := eq_true aj
     have fj : wr.cell? ⟨y, 0, none⟩ = some (.int .i64 I) := bc a 0
     have fk : wr.cell? ⟨y, 1, none⟩ = some (.int .i64 J) := bc a 1
     have fl : wr.cell? ⟨y, 2, none⟩ = some (.slice X D.length U) := bc a 2
     have fm : wr.cell? ⟨y, 3, none⟩ = some (.slice Y u.length W) := bc a 3
     have fn := Zae a.out 0
     have fo := Zae a.out 1
     have fp := Zae a.out 2
     have fq := Zae a.out 3
     have ay : 0 ≤ (z : Int) := ofD
     have az : z < (D.length : Int) := ofD
     obtain ⟨cg, bQ, aa⟩ := yD b8.out z ay az
     (try rw [← ax.out] at aa)
     (try rw [← aH.out] at aa)
     cases bQ
     replace aa := (HB.out.cell (wB w aa)).trans aa
     replace ay := eq_true ay
     replace az := eq_true az
     go_wp2
     (try simp only [← l])
     go_roundg k1
     case measure => have := ae.out; omega
     case rel => exact ⟨(ah), (wrap64 (z + 1)), (eW), H', ⟨by have := ae.out; omega⟩, ⟨by (try simp only [l]); exact rP m.out⟩, ⟨by (try simp only [l]); exact bP a.out⟩, ⟨bW⟩⟩
    subst cf
    rw [if_pos rfl] at H
    obtain ⟨dP, H⟩ := gE H
    (try (have dQ := dP; simp only [l] at dQ))
    obtain ⟨cX, ch⟩ := nm ((ah.set (z : Int).toNat 1) : List Int)
    rw [← ch.out] at H
    have H' := mA H
    clear H
    have ai : 0 ≤ (z : Int) := ofD
    have aj : z < (l1.length : Int) := ofD
    obtain ⟨ce, a4, G⟩ := yD cF.out z ai aj
    (try rw [← ax.out] at G)
    (try rw [← aH.out] at G)
    cases a4
    replace G := (HB.out.cell (wB w G)).trans G
    replace ai := eq_true ai
    replace aj := eq_true aj
    have fr : wr.cell? ⟨y, 0, none⟩ = some (.int .i64 I) := bc a 0
    have fs : wr.cell? ⟨y, 1, none⟩ = some (.int .i64 J) := bc a 1
    have ft : wr.cell? ⟨y, 2, none⟩ = some (.slice X D.length U) := bc a 2
    have fu : wr.cell? ⟨y, 3, none⟩ = some (.slice Y u.length W) := bc a 3
    have fv := Zae a.out 0
    have fw := Zae a.out 1
    have fx := Zae a.out 2
    have fy := Zae a.out 3
    have ay : 0 ≤ (z : Int) := ofD
    have az : z < (D.length : Int) := ofD
    obtain ⟨cg, bQ, aa⟩ := yD b8.out z ay az
    (try rw [← ax.out] at aa)
    (try rw [← aH.out] at aa)
    cases bQ
    replace aa := (HB.out.cell (wB w aa)).trans aa
    replace ay := eq_true ay
    replace az := eq_true az
    have cY : 0 ≤ (z : Int) := ofD
    have cZ : (z : Int) < ((ah.length : Int) : Int) := ofD
    obtain ⟨bR, gD, c0, da, eX, gF, db⟩ := yK m.out (by omega)
    (first | cases c0 | (injection c0 with ea_ en_ ec_; (first | subst ea_ | (injection ea_ with ea_; subst ea_)); subst ec_; clear en_))
    have eY := mA da
    have gG := mA db
    clear da eX db
    obtain ⟨fU, fV⟩ := yF 0 m.out (z : Int) cY cZ
    replace cY := eq_true cY
    replace cZ := eq_true cZ
    have bS := yI m.out (z : Int) 1
    go_wp2_with (first | ((with_reducible refine Zbq (t := 2) (p := 43) rfl ?_); refine Zdg (t := 2) (p := 43) (w1 := (wr.setCell ⟨bR, (z : Int).toNat, none⟩ (.int .i64 1))) ?_; intro dc hw; have hg : wr.grownBy dc (some bR) := (by rw [hw]; exact bS.2); have hp_ : Kd.R (Kd.int .i64) 2 dc w.heap.size (fun _ => True) (.slice (some ⟨bR, 0, none⟩) ah.length cO) cX := (by rw [hw, ch.out]; exact bS.1); clear bS; replace a := mA (Zah (g := y) (o := .cells #[.int .i64 I, .int .i64 J, .slice (some cg) D.length U, .slice Y u.length W] 77 (0, 0)) (bP a.out) hg (zN m.out a.out (by decide))); replace m := mA (hp_); replace HB := mA ((by rw [hw]; exact Za9 (HB.out) eY.out : Below w.heap.size w dc)); clear hg hw hp_))
    (try simp only [← l])
    go_roundg k1
    case measure => have := ae.out; omega
    case rel => exact ⟨(cX), (wrap64 (z + 1)), (eW), H', ⟨by have := ae.out; omega⟩, ⟨by (try simp only [l]); exact rP m.out⟩, ⟨by (try simp only [l]); exact bP a.out⟩, ⟨bW⟩⟩
   rw [if_neg c10] at H
   have a1 := dF c10
   (try (have bk := a1; simp only [l] at bk))
   clear c10
   have H' := mA H
   clear H
   go_wp2
   go_loopg [5, 7] k1 (fun kq v5 v7 w' => ∃ (s : List Int) (al : Int), v7 = .int .i64 al ∧ Zac (Zan.l1 kq s al I J D u = some r) ∧ Zac (kq ≤ k1) ∧ Zac (Kd.R (Kd.int .i64) 2 w' w.heap.size (fun _ => True) v5 s) ∧ Zac (w'.heap[y]? = some (.cells #[.int .i64 I, .int .i64 J, (.slice X D.length U), (.slice Y u.length W)] 77 (0, 0))) ∧ Zac (Below w.heap.size w w'))
   case atStart => exact ⟨(ah), (0), (eW), H', ⟨Nat.le_refl _⟩, ⟨by (try simp only [l]); exact rP m.out⟩, ⟨by (try simp only [l]); exact bP a.out⟩, ⟨bW⟩⟩
   case round =>
    clear H' a1
    obtain ⟨s, al, rfl, HA, ar, m, a, HB⟩ := hrel
    cases gk with
    | zero => exact absurd HA.out (by simp [Zan.l1])
    | succ k2 =>
     have H := HA.out
     clear HA
     simp only [Zan.l1] at H
     by_cases bI : 0 ≤ (s.length : Int); rotate_left
     ·rw [if_neg bI] at H
      exact absurd H (by simp)
     rw [if_pos bI] at H
     have dR := eq_true bI
     have dS := dT bI
     clear bI
     by_cases bJ : ((s.length : Int) : Int).toNat ≤ 35184372088832; rotate_left
     ·rw [if_neg bJ] at H
      exact absurd H (by simp)
     rw [if_pos bJ] at H
     have dU := eq_true bJ
     have dV := dT bJ
     clear bJ
     obtain ⟨bT, aI⟩ := nm ((List.replicate ((s.length : Int) : Int).toNat 0) : List Int)
     rw [← aI.out] at H
     have H' := mA H
     clear H
     try go_wp2
     replace m := mA (zA m.out)
     replace a := mA (Zaa a.out)
     replace HB := mA (Za1 HB.out)
     obtain ⟨aN, ak, dd⟩ := zP m.out
     (first | subst dd | (injection dd with bK de bL; have df := bK.symm; have dg := bL.symm; clear bK de bL; subst df; subst dg))
     refine Zck (n := 6) (S := fun w' => True) (ds := []) #[false, false, false, false, false, false] (by kernel_rfl) rfl rfl trivial (fun hHeld => ?_)
     generalize wr.drew = w30 at m a HB hHeld ⊢
     refine Zas (i := 1) (N := some 46) (by kernel_rfl) ?_
     refine Zas (i := 2) (N := some 47) (by kernel_rfl) ?_
     refine join_ (σ := Nat × Value) 1 #[true, true, true, true, true, false] (fun s_ => [(45, .map (some s_.1)), (48, s_.2), (8, .map (some s_.1))]) (fun s_ w' => (Kd.R (Kd.int .i64) 2 w' w.heap.size (fun k_ => some k_ ≠ (.slice aN s.length ak : Value).ownBlock) s_.2 bT) ∧ (Kd.R (Kd.int .i64) 2 w' w.heap.size (fun k_ => some k_ ≠ (s_.2 : Value).ownBlock) (.slice aN s.length ak) s) ∧ (w'.heap[y]? = some (.cells #[.int .i64 I, .int .i64 J, .slice X D.length U, .slice Y u.length W] 77 (0, 0))) ∧ (w'.heap[s_.1]? = some (mobj Value.string (Value.int .i64) ([] : List (ByteArray × Int)))) ∧ (w.heap.size ≤ s_.1) ∧ (w.heap.size ≤ s_.1) ∧ (y ≠ s_.1) ∧ (s_.1 ≠ y) ∧ (Below w.heap.size w w')) ?_ ?_
     rotate_left
     ·intro hCont
      refine two_ (i := 0) (j := 3) (Ni := some 45) (Nj := some 48) #[true, true, true, false, false, false] #[false, true, true, true, false, false] rfl rfl rfl rfl (by kernel_rfl) (by decide) (by decide) (fun K hK => ?_) (fun K hK => ?_)
      ·skip
       refine mapS_step Value.string (Value.int .i64) (by rfl) ?_
       intro E hg fW hbox hb
       replace m := mA (zK (rP m.out) hb)
       have q := mA (hbox)
       have a2 := geW (w := w) hg
       have aJ := geW (w := w) hg
       replace HB := mA (Zaf (bW) hb)
       have ab := mA (neB hg a)
       have ac := mA (neC hg a)
       replace a := mA (blkB a.out hb)
       clear hb hbox hg
       refine hK.out _ _ trivial (fun hHeld => ?_)
       clear hK K
       refine putS 45 ?_
       refine Zas (i := 4) (N := some 8) (by kernel_rfl) ?_
       refine one_ (i := 3) (N := some 48) #[true, true, true, true, true, false] rfl rfl (by kernel_rfl) (by decide) (fun K hK => ?_)
       refine xJ (Kd.int .i64) _ 2 (by rfl) (N := 48) rfl 22 _ _ rfl (s.length : Int) rfl rfl Tryd.underlying22 (.int .i64 0) 8 Zci rfl (by decide) (by omega) 0 (ok := fun _ => True) (okp := fun _ => True) rfl (fun _ hk => hk) trivial (ofD) (Nat.le_trans (Nat.mul_le_mul_right _ (ofD : (s.length : Int).toNat ≤ 35184372088832)) (by omega)) (Below.refl _ _) (Nat.le_refl _) ?_
       intro am gU aP hb hg_ hnew_
       clear hg_ hnew_
       (first | rw [← aI.out] at aP | (simp only [Int.reduceToNat] at aP; rw [← aI.out] at aP))
       have ap := mA (zS (yC aP (zI (rP m.out))) (Zaj (bW)))
       replace m := mA (zZ (rP m.out) (zU aP) hb)
       replace a := mA (blkB a.out hb)
       replace q := mA (blkB q.out hb)
       replace HB := mA (Zaf (bW) hb)
       clear hb aP
       refine hK.out _ _ trivial (fun hHeld => ?_)
       clear hK K
       refine putS 48 ?_
       exact norm_ (by simp only [Zcy, Act.put, List.setIfInBounds_toArray, List.set_cons_zero, List.set_cons_succ]) (hCont (E, am) _ ⟨(by (with_reducible repeat (first | apply zC | apply zD | apply zA)); exact zB ap.out (fun _ hk => hk.2)), (by (with_reducible repeat (first | apply zC | apply zD | apply zA)); exact zB m.out (fun _ hk => hk.2)), (bP a.out), (bP q.out), a2.out, aJ.out, ab.out, ac.out, (bW)⟩)
      skip
      refine xJ (Kd.int .i64) _ 2 (by rfl) (N := 48) rfl 22 _ _ rfl (s.length : Int) rfl rfl Tryd.underlying22 (.int .i64 0) 8 Zci rfl (by decide) (by omega) 0 (ok := fun _ => True) (okp := fun _ => True) rfl (fun _ hk => hk) trivial (ofD) (Nat.le_trans (Nat.mul_le_mul_right _ (ofD : (s.length : Int).toNat ≤ 35184372088832)) (by omega)) (Below.refl _ _) (Nat.le_refl _) ?_
      intro am fW aQ hb hg_ hnew_
      clear hg_ hnew_
      (first | rw [← aI.out] at aQ | (simp only [Int.reduceToNat] at aQ; rw [← aI.out] at aQ))
      have ap := mA (zS (yC aQ (zI (rP m.out))) (Zaj (bW)))
      replace m := mA (zZ (rP m.out) (zU aQ) hb)
      replace a := mA (blkB a.out hb)
      replace HB := mA (Zaf (bW) hb)
      clear hb aQ
      refine hK.out _ _ trivial (fun hHeld => ?_)
      clear hK K
      refine putS 48 ?_
      refine one_ (i := 0) (N := some 45) #[true, true, true, true, false, false] rfl rfl (by kernel_rfl) (by decide) (fun K hK => ?_)
      refine mapS_step Value.string (Value.int .i64) (by rfl) ?_
      intro E hg gV hbox hb
      replace m := mA (zK (rP m.out) hb)
      replace ap := mA (zK (rP ap.out) hb)
      have q := mA (hbox)
      have a2 := geW (w := w) hg
      have aJ := geW (w := w) hg
      replace HB := mA (Zaf (bW) hb)
      have ab := mA (neB hg a)
      have ac := mA (neC hg a)
      replace a := mA (blkB a.out hb)
      clear hb hbox hg
      refine hK.out _ _ trivial (fun hHeld => ?_)
      clear hK K
      refine putS 45 ?_
      refine Zas (i := 4) (N := some 8) (by kernel_rfl) ?_
      exact norm_ (by simp only [Zcy, Act.put, List.setIfInBounds_toArray, List.set_cons_zero, List.set_cons_succ]) (hCont (E, am) _ ⟨(by (with_reducible repeat (first | apply zC | apply zD | apply zA)); exact zB ap.out (fun _ hk => hk.2)), (by (with_reducible repeat (first | apply zC | apply zD | apply zA)); exact zB m.out (fun _ hk => hk.2)), (bP a.out), (bP q.out), a2.out, aJ.out, ab.out, ac.out, (bW)⟩)
     rintro ⟨E, am⟩ w35 ⟨es, et, eu, ev, ew, ey, ez, eA, eB⟩
     have eC : Zac (Kd.R (Kd.int .i64) 2 w35 w.heap.size (fun k_ => some k_ ≠ (.slice aN s.length ak : Value).ownBlock) am bT) := ⟨es⟩
     have eD : Zac (Kd.R (Kd.int .i64) 2 w35 w.heap.size (fun k_ => some k_ ≠ (am : Value).ownBlock) (.slice aN s.length ak) s) := ⟨et⟩
     have eE : Zac (w35.heap[y]? = some (.cells #[.int .i64 I, .int .i64 J, .slice X D.length U, .slice Y u.length W] 77 (0, 0))) := ⟨eu⟩
     have eF : Zac (w35.heap[E]? = some (mobj Value.string (Value.int .i64) ([] : List (ByteArray × Int)))) := ⟨ev⟩
     have eG : Zac (w.heap.size ≤ E) := ⟨ew⟩
     have eH : Zac (w.heap.size ≤ E) := ⟨ey⟩
     have eI : Zac (y ≠ E) := ⟨ez⟩
     have eJ : Zac (E ≠ y) := ⟨eA⟩
     have eL : Zac (Below w.heap.size w w35) := ⟨eB⟩
     clear m a HB es et eu ev ew ey ez eA eB; have ap := eC; have m := eD; have a := eE; have q := eF; have a2 := eG; have aJ := eH; have ab := eI; have ac := eJ; have HB := eL; clear eC eD eE eF eG eH eI eJ eL
     have hHeld := trivial
     refine norm_ (a' := ?_) ?_ ?_
     rotate_left
     ·simp only [Zcy, Act.put, List.setIfInBounds_toArray, List.set_cons_zero, List.set_cons_succ]
      rfl
     refine Zas (i := 5) (N := some 9) (by kernel_rfl) ?_
     refine done_ (by kernel_rfl) ?_
     try go_wp2
     go_loopg [51] k2 (fun kq v51 w' => ∃ (T : List Int) (c : Int) (d : List (ByteArray × Int)), v51 = .int .i64 c ∧ Zac (Zan.l2 kq s al T (s.length : Int) c I J D u d = some r) ∧ Zac (kq ≤ k2) ∧ Zac (Kd.R (Kd.int .i64) 2 w' w.heap.size (fun k_ => some k_ ≠ (am : Value).ownBlock) (.slice aN s.length ak) s) ∧ Zac (Kd.R (Kd.int .i64) 2 w' w.heap.size (fun k_ => some k_ ≠ ((.slice aN s.length ak) : Value).ownBlock) am T) ∧ Zac (w'.heap[y]? = some (.cells #[.int .i64 I, .int .i64 J, (.slice X D.length U), (.slice Y u.length W)] 77 (0, 0))) ∧ Zac (w'.heap[E]? = some (mobj Value.string (Value.int .i64) d)) ∧ Zac (Below w.heap.size w w'))
     case atStart => exact ⟨(bT), (0), (([] : List (ByteArray × Int))), (eW), H', ⟨Nat.le_refl _⟩, ⟨by (try simp only [l]); exact rP m.out⟩, ⟨by (try simp only [l]); exact rP ap.out⟩, ⟨by (try simp only [l]); exact bP a.out⟩, ⟨by (try simp only [l]); exact bP q.out⟩, ⟨bW⟩⟩
     case round =>
      clear H' dR dS dU dV
      obtain ⟨T, c, d, rfl, HA, au, m, x, a, q, HB⟩ := hrel
      cases gk with
      | zero => exact absurd HA.out (by simp [Zan.l2])
      | succ k3 =>
       have H := HA.out
       clear HA
       simp only [Zan.l2] at H
       by_cases ba : c < (s.length : Int); rotate_left
       ·rw [if_neg ba] at H
        have a3 := dF ba
        (try (have bl := a3; simp only [l] at bl))
        clear ba
        by_cases a5 : (d.length : Int) = al
        ·rw [if_pos a5] at H
         have bm : ((d.length : Int) == al) = true := beq_iff_eq.mpr a5
         (try (have bn := bm; simp only [l] at bn))
         have bo : ((d.length : Int) != al) = false := bne_eq_false_iff_eq.mpr a5
         (try (have bp := bo; simp only [l] at bp))
         clear a5
         obtain rfl := oI H
         go_wp2_with (first | ((with_reducible refine Za6 (b := .len) (xs := #[.tmp 124]) rfl ?_); refine mlenS (eK := Value.string) (eV := (Value.int .i64)) (g := E) (L := d) (bP q.out) Tryd.underlying148 ?_))
         go_ret
         exact ⟨_, eW, by (with_reducible repeat (first | apply zC | apply zD | apply zA)); exact zB x.out (fun _ hk => trivial), bW⟩
        rw [if_neg a5] at H
        have bm : ((d.length : Int) == al) = false := beq_eq_false_iff_ne.mpr a5
        (try (have bn := bm; simp only [l] at bn))
        have bo : ((d.length : Int) != al) = true := bne_iff_ne.mpr a5
        (try (have bp := bo; simp only [l] at bp))
        have H' := mA H
        clear H
        go_wp2_with (first | ((with_reducible refine Za6 (b := .len) (xs := #[.tmp 124]) rfl ?_); refine mlenS (eK := Value.string) (eV := (Value.int .i64)) (g := E) (L := d) (bP q.out) Tryd.underlying148 ?_) | ((with_reducible refine Za6 (b := .len) (xs := #[.tmp 129]) rfl ?_); refine mlenS (eK := Value.string) (eV := (Value.int .i64)) (g := E) (L := d) (bP q.out) Tryd.underlying148 ?_))
        go_roundg k3
        case measure => have := ae.out; have := ar.out; have := au.out; omega
        case rel => exact ⟨(T), ((d.length : Int)), (eW), H', ⟨by have := ae.out; have := ar.out; have := au.out; omega⟩, ⟨by (try simp only [l]); (with_reducible repeat (first | apply zC | apply zD | apply zA)); exact zB x.out (fun _ hk => trivial)⟩, ⟨by (try simp only [l]); exact bP a.out⟩, ⟨bW⟩⟩
       rw [if_pos ba] at H
       have a3 := dT ba
       (try (have bl := a3; simp only [l] at bl))
       clear ba
       obtain ⟨dW, H⟩ := gE H
       obtain ⟨ci, H⟩ := gE H
       (try (have dX := ci; simp only [l] at dX))
       by_cases bb : (rd s c) < 0
       ·rw [if_pos bb] at H
        have cj := dT bb
        clear bb
        obtain ⟨dY, H⟩ := gE H
        (try (have dZ := dY; simp only [l] at dZ))
        obtain ⟨dh, ck⟩ := nm ((T.set (c : Int).toNat (-1)) : List Int)
        rw [← ck.out] at H
        have H' := mA H
        clear H
        have av : 0 ≤ (c : Int) := ofD
        have aw : c < (s.length : Int) := ofD
        obtain ⟨ad, bU, bd⟩ := zO (zJ m.out).2.2 c av aw
        cases bU
        replace av := eq_true av
        replace aw := eq_true aw
        have di : 0 ≤ (c : Int) := ofD
        have dj : (c : Int) < ((T.length : Int) : Int) := ofD
        obtain ⟨a6, bV, dk, dl, eZ, gH, dm⟩ := yK x.out (by omega)
        (first | cases dk | (injection dk with ea_ en_ ec_; (first | subst ea_ | (injection ea_ with ea_; subst ea_)); subst ec_; clear en_))
        have e0 := mA dl
        have gI := mA dm
        clear dl eZ dm
        obtain ⟨fX, fY⟩ := yF 0 x.out (c : Int) di dj
        replace di := eq_true di
        replace dj := eq_true dj
        have bX := yI x.out (c : Int) (-1)
        go_wp2_with (first | ((with_reducible refine Zbq (t := 2) (p := 61) rfl ?_); refine Zdg (t := 2) (p := 61) (w1 := (wr.setCell ⟨a6, (c : Int).toNat, none⟩ (.int .i64 (-1)))) ?_; intro dn hw; have hg : wr.grownBy dn (some a6) := (by rw [hw]; exact bX.2); have hp_ : Kd.R (Kd.int .i64) 2 dn w.heap.size (fun k_ => some k_ ≠ (.slice (some ad) s.length ak : Value).ownBlock) (.slice (some ⟨a6, 0, none⟩) T.length bV) dh := (by rw [hw, ck.out]; exact bX.1); clear bX; replace m := mA (zR (v := (.slice (some ⟨a6, 0, none⟩) T.length bV)) (v1 := (.slice (some ⟨a6, 0, none⟩) T.length bV)) (ok := (fun _ => True)) (by (with_reducible repeat (first | apply zC | apply zD | apply zA)); exact zB m.out (fun _ hk => ⟨trivial, hk⟩)) hg (.inl rfl)); replace a := mA (Zah (g := y) (o := .cells #[.int .i64 I, .int .i64 J, .slice X D.length U, .slice Y u.length W] 77 (0, 0)) (bP a.out) hg (zN x.out a.out (by decide))); replace q := mA (Zah (g := E) (o := mobj Value.string (Value.int .i64) d) (bP q.out) hg (Kd.R_nem x.out q.out)); replace x := mA (hp_); replace HB := mA ((by rw [hw]; exact Za9 (HB.out) e0.out : Below w.heap.size w dn)); clear hg hw hp_))
        go_roundg k3
        case measure => have := ae.out; have := ar.out; have := au.out; omega
        case rel => exact ⟨(dh), (wrap64 (c + 1)), (d), (eW), H', ⟨by have := ae.out; have := ar.out; have := au.out; omega⟩, ⟨by (try simp only [l]); (with_reducible repeat (first | apply zC | apply zD | apply zA)); exact zB m.out (fun _ hk => hk.2)⟩, ⟨by (try simp only [l]); exact rP x.out⟩, ⟨by (try simp only [l]); exact bP a.out⟩, ⟨by (try simp only [l]); exact bP q.out⟩, ⟨bW⟩⟩
       rw [if_neg bb] at H
       have cj := dF bb
       clear bb
       obtain ⟨dp, bq⟩ := nm ((([(rd s c) / 256, Go.bits .and .i64 (rd s c) 255] : List Int)) : List Int)
       rw [← bq.out] at H
       obtain ⟨br, fZ, H⟩ := bA H
       by_cases bM : br.size ≤ 140737488355328; rotate_left
       ·rw [if_neg bM] at H
        exact absurd H (by simp)
       rw [if_pos bM] at H
       have d0 := eq_true bM
       have d1 := dT bM
       clear bM
       obtain ⟨e1, bs⟩ := nm ((bytesOf br) : List Int)
       rw [← bs.out] at H
       have H' := mA H
       clear H
       have av : 0 ≤ (c : Int) := ofD
       have aw : c < (s.length : Int) := ofD
       obtain ⟨ad, bU, bd⟩ := zO (zJ m.out).2.2 c av aw
       cases bU
       replace av := eq_true av
       replace aw := eq_true aw
       try go_wp2
       replace m := mA (zA m.out)
       replace x := mA (zA x.out)
       replace a := mA (Zaa a.out)
       replace q := mA (Zaa q.out)
       replace HB := mA (Za1 HB.out)
       have bu : 0 ≤ (c : Int) := ofD
       have bv : c < (s.length : Int) := ofD
       obtain ⟨d2, e2, aT⟩ := zO (zJ m.out).2.2 c bu bv
       obtain rfl : ad = d2 := (by injection e2)
       replace bu := eq_true bu
       replace bv := eq_true bv
       have bw : 0 ≤ (c : Int) := ofD
       have bx : c < (s.length : Int) := ofD
       obtain ⟨d3, e3, aU⟩ := zO (zJ m.out).2.2 c bw bx
       obtain rfl : ad = d3 := (by injection e3)
       replace bw := eq_true bw
       replace bx := eq_true bx
       refine Zck (n := 14) (S := fun w' => w'.cell? (ad.add (c).toNat) = some (.int .i64 (rd s c)) ∧ w'.cell? (ad.add (c).toNat) = some (.int .i64 (rd s c))) (ds := []) #[false, false, false, false, false, false, false, false, false, false, false, false, false, false] (by kernel_rfl) rfl rfl ⟨aT, aU⟩ (fun hHeld => ?_); refine Zb5 Zan.tab17 Zan.bits17 (fun HT_ HW_ => ?_)
       generalize wr.drew = w46 at m x a q HB aT aU hHeld ⊢
       refine Zas (i := 0) (N := some 62) (Zap HT_.out (by kernel_rfl)) ?_
       refine Zas (i := 1) (N := some 63) (Zap HT_.out (by kernel_rfl)) ?_
       refine Zas (i := 2) (N := some 64) (Zap HT_.out (by kernel_rfl)) ?_
       refine Zas (i := 5) (N := some 67) (Zap HT_.out (by kernel_rfl)) ?_
       refine Zas (i := 6) (N := some 68) (Zap HT_.out (by kernel_rfl)) ?_
       refine Zas (i := 7) (N := some 69) (Zap HT_.out (by kernel_rfl)) ?_
       refine Zbg (i := 3) (N := some 65) (Za0 HT_.out HW_.out (by kernel_rfl)) hHeld ?_
       refine Zas (i := 4) (N := some 66) (Zap HT_.out (by kernel_rfl)) ?_
       refine Zbg (i := 8) (N := some 70) (Za0 HT_.out HW_.out (by kernel_rfl)) hHeld ?_
       refine Zas (i := 9) (N := some 71) (Zap HT_.out (by kernel_rfl)) ?_
       refine one_ (i := 10) (N := some 72) #[true, true, true, true, true, true, true, true, true, true, true, false, false, false] rfl rfl (Zbe HT_.out (by kernel_rfl)) (by decide) (fun K hK => ?_)
       refine xA (Kd.int .i64) _ 2 ?hg (N := 72) ?hd (xs := ([(rd s c) / 256, Go.bits .and .i64 (rd s c) 255] : List Int)) (inner := [.int .i64 ((rd s c) / 256), .int .i64 (Go.bits .and .i64 (rd s c) 255)]) (ok := fun _ => True) (okp := fun _ => True) ?hr ?hp (fun _ hk => hk) trivial (Below.refl _ _) (Nat.le_refl _) (by simp) ?_; (case hd => rfl); (case hg => rfl); (case hr => first | (go_simp; done) | (go_simp; rfl)); (case hp => exact (Reps.one (show Kd.M (Kd.int .i64) _ _ _ ((rd s c) / 256) [.int .i64 ((rd s c) / 256)] from rfl) (Reps.one (show Kd.M (Kd.int .i64) _ _ _ (Go.bits .and .i64 (rd s c) 255) [.int .i64 (Go.bits .and .i64 (rd s c) 255)] from rfl) (Reps.none _ _))))
       intro gJ gW aA hb hg_ hnew_
       have a7 := (hb.cell (World.block_lt_of_cell? _ _ (hHeld.1))).trans (hHeld.1)
       have a8 := (hb.cell (World.block_lt_of_cell? _ _ (hHeld.2))).trans (hHeld.2)
       clear hg_ hnew_
       (first | rw [← bq.out] at aA | (simp only [Int.reduceToNat] at aA; rw [← bq.out] at aA))
       have aq := mA (zS (yC (yC aA (zI (rP m.out))) (zI (rP x.out))) (Zaj (bW)))
       replace m := mA (zZ (rP m.out) (zU aA) hb)
       replace x := mA (zZ (rP x.out) (zU aA) hb)
       replace a := mA (blkB a.out hb)
       replace q := mA (blkB q.out hb)
       replace HB := mA (Zaf (bW) hb)
       clear hb aA
       obtain ⟨e4, e5, dq⟩ := zP aq.out
       (first | subst dq | (injection dq with bK de bL; have df := bK.symm; have dg := bL.symm; clear bK de bL; subst df; subst dg))
       refine hK.out _ _ ⟨a7, a8⟩ (fun hHeld => ?_)
       clear hK K
       refine putS 72 ?_
       refine one_ (i := 11) (N := some 73) #[true, true, true, true, true, true, true, true, true, true, true, true, false, false] rfl rfl (Zbe HT_.out (by kernel_rfl)) (by decide) (fun K hK => ?_)
       refine goes_ Tryd.func72 (by kernel_rfl) rfl #[.slice e4 dp.length e5] (by rfl) rfl rfl (by (try simp only [List.map_toArray, List.map_cons, List.map_nil]); first | done | rfl | (simp only [List.length_drop, List.length_take]; rfl)) ?_
       with_reducible refine (Zb4.calls k3 _ _ dp br _ ?side1 ?side2 fZ.out).mono ?_
       (case side1 => exact cP ((zJ aq.out).2.2))
       (case side2 => exact (zJ aq.out).2.1)
       rintro e gX ⟨rfl, hb⟩
       have a7 := (hb.cell (World.block_lt_of_cell? _ _ (hHeld.1))).trans (hHeld.1)
       have a8 := (hb.cell (World.block_lt_of_cell? _ _ (hHeld.2))).trans (hHeld.2)
       refine ⟨_, rfl, ?_⟩
       replace m := mA (zK (rP m.out) hb)
       replace x := mA (zK (rP x.out) hb)
       replace aq := mA (zK (rP aq.out) hb)
       replace a := mA (blkB a.out hb)
       replace q := mA (blkB q.out hb)
       replace HB := mA (Zaf (bW) hb)
       (try clear hb)
       (try clear hb2)
       (try clear hk)
       (try clear hi)
       refine hK.out _ _ ⟨a7, a8⟩ (fun hHeld => ?_)
       clear hK K
       refine putS 73 ?_
       refine one_ (i := 12) (N := some 74) #[true, true, true, true, true, true, true, true, true, true, true, true, true, false] rfl rfl (Zbe HT_.out (by kernel_rfl)) (by decide) (fun K hK => ?_)
       refine Kd.Z_conv_step 5 (N := 74) br Tryd.underlying95 Tryd.underlying9 Tryd.underlying5 (ofD) ?_
       intro gK cm a9 hb hg_ hnew_
       have a7 := (hb.cell (World.block_lt_of_cell? _ _ (hHeld.1))).trans (hHeld.1)
       have a8 := (hb.cell (World.block_lt_of_cell? _ _ (hHeld.2))).trans (hHeld.2)
       clear hg_ hnew_
       (first | rw [← bs.out] at a9 | (simp only [Int.reduceToNat] at a9; rw [← bs.out] at a9))
       replace m := mA (zK (rP m.out) hb)
       replace x := mA (zK (rP x.out) hb)
       replace aq := mA (zK (rP aq.out) hb)
       have d4 := mA (Kd.Z_lower a9 (Zaj (bW)))
       replace a := mA (blkB a.out hb)
       replace q := mA (blkB q.out hb)
       replace HB := mA (Zaf (bW) hb)
       clear hb a9
       refine hK.out _ _ ⟨a7, a8⟩ (fun hHeld => ?_)
       clear hK K
       refine putS 74 ?_
       refine Zas (i := 13) (N := some 11) (Zap HT_.out (by kernel_rfl)) ?_
       refine done_ (Zcs HT_.out (by kernel_rfl)) ?_
       have gb := ab.out
       have gc := ac.out
       have cw : cm.cell? ⟨y, 0, none⟩ = some (.int .i64 I) := bc a 0
       have cx : cm.cell? ⟨y, 1, none⟩ = some (.int .i64 J) := bc a 1
       have cy : cm.cell? ⟨y, 2, none⟩ = some (.slice X D.length U) := bc a 2
       have cz : cm.cell? ⟨y, 3, none⟩ = some (.slice Y u.length W) := bc a 3
       have cA := Zae a.out 0
       have cB := Zae a.out 1
       have cC := Zae a.out 2
       have cD := Zae a.out 3
       try go_wp2
       go_loopg [11, 77] k3 (fun kq v11 v77 w' => ∃ (O : List Int) (A : Int), v77 = .int .i64 A ∧ Zac (Zan.l3 kq s al T c O (s.length : Int) c I A I J D u d = some r) ∧ Zac (kq ≤ k3) ∧ Zac (Kd.R (Kd.int .i64) 2 w' w.heap.size (fun k_ => some k_ ≠ (am : Value).ownBlock) (.slice (some ad) s.length ak) s) ∧ Zac (Kd.R (Kd.int .i64) 2 w' w.heap.size (fun k_ => some k_ ≠ ((.slice (some ad) s.length ak) : Value).ownBlock) am T) ∧ Zac (Kd.Z (Kd.int .u8) 5 w' w.heap.size (fun _ => True) v11 O) ∧ Zac (w'.heap[y]? = some (.cells #[.int .i64 I, .int .i64 J, (.slice X D.length U), (.slice Y u.length W)] 77 (0, 0))) ∧ Zac (w'.heap[E]? = some (mobj Value.string (Value.int .i64) d)) ∧ Zac (Below w.heap.size w w'))
       case atStart => exact ⟨(e1), (0), (eW), H', ⟨Nat.le_refl _⟩, ⟨by (try simp only [l]); (with_reducible repeat (first | apply zC | apply zD | apply zA)); exact zB m.out (fun _ hk => hk.1)⟩, ⟨by (try simp only [l]); (with_reducible repeat (first | apply zC | apply zD | apply zA)); exact zB x.out (fun _ hk => hk.1)⟩, ⟨by (try simp only [l]); (with_reducible repeat (first | apply Kd.Z_alloc | apply Kd.Z_drewN | apply Kd.Z_drew)); exact d4.out⟩, ⟨by (try simp only [l]); exact bP a.out⟩, ⟨by (try simp only [l]); exact bP q.out⟩, ⟨bW⟩⟩
       case round =>
        clear H' a3 dW ci cj d0 d1 cw cx cy cz cA cB cC cD bd aT aU av bu bw aw bv bx
        obtain ⟨O, A, rfl, HA, a0, m, x, B, a, q, HB⟩ := hrel
        cases gk with
        | zero => exact absurd HA.out (by simp [Zan.l3])
        | succ k4 =>
         have H := HA.out
         clear HA
         simp only [Zan.l3] at H
         by_cases bf : A < I; rotate_left
         ·rw [if_neg bf] at H
          have d5 := dF bf
          clear bf
          by_cases bg : (mhas d (strOfNums O) = true)
          ·rw [if_pos bg] at H
           have d6 : mhas d (strOfNums O) = true := bg
           clear bg
           obtain ⟨gf, H⟩ := gE H
           obtain ⟨d7, H⟩ := gE H
           (try (have d8 := d7; simp only [l] at d8))
           obtain ⟨dr, cn⟩ := nm ((T.set (c : Int).toNat (mget 0 d (strOfNums O))) : List Int)
           rw [← cn.out] at H
           have H' := mA H
           clear H
           have gg := Kd.Z_string (P := Tryd.prog) Tryd.underlying95 Tryd.underlying5 Tryd.underlying9 B.out
           go_wp2_with (first | ((with_reducible refine Zat (N := 107) rfl ?_); refine mgetS (eK := Value.string) (eV := (Value.int .i64)) (g := E) (L := d) 0 (strOfNums O) mkey_str (bP q.out) Tryd.underlying148 Tryd.underlying9 (Tryd.zeroValue2 _) ?_; have dt : 0 ≤ (c : Int) := ofD; have du : (c : Int) < ((T.length : Int) : Int) := ofD; obtain ⟨aV, bz, dv, dw, e6, gL, dx⟩ := yK x.out (by omega); (first | cases dv | (injection dv with ea_ en_ ec_; (first | subst ea_ | (injection ea_ with ea_; subst ea_)); subst ec_; clear en_)); have e7 := mA dw; have gM := mA dx; clear dw e6 dx; obtain ⟨f0, f3⟩ := yF 0 x.out (c : Int) dt du; replace dt := eq_true dt; replace du := eq_true du; obtain ⟨gh, gi⟩ := yF 0 x.out (c : Int) (ofD) (ofD); have bY := yI x.out (c : Int) (mget 0 d (strOfNums O))) | ((with_reducible refine Zbq (t := 2) (p := 121) rfl ?_); refine store_event (t := 2) (p := 121) (v := ?vo_w83) (w1 := (wr.setCell ⟨aV, (c : Int).toNat, none⟩ (.int .i64 (mget 0 d (strOfNums O))))) ?hg ?ho ?hn ?hr ?_; (case ho => rfl); (case hg => rfl); (case hn => rfl); (case hr => first | (go_simp; done) | (go_simp; rfl)); intro dy hw; have hg : wr.grownBy dy (some aV) := (by rw [hw]; exact bY.2); have hp_ : Kd.R (Kd.int .i64) 2 dy w.heap.size (fun k_ => some k_ ≠ (.slice (some ad) s.length ak : Value).ownBlock) (.slice (some ⟨aV, 0, none⟩) T.length bz) dr := (by rw [hw, cn.out]; exact bY.1); clear bY; replace m := mA (zR (v := (.slice (some ⟨aV, 0, none⟩) T.length bz)) (v1 := (.slice (some ⟨aV, 0, none⟩) T.length bz)) (ok := (fun _ => True)) (by (with_reducible repeat (first | apply zC | apply zD | apply zA)); exact zB m.out (fun _ hk => ⟨trivial, hk⟩)) hg (.inl rfl)); replace B := mA (Kd.Z_over' (v := (.slice (some ⟨aV, 0, none⟩) T.length bz)) (by (with_reducible repeat (first | apply Kd.Z_alloc | apply Kd.Z_drewN | apply Kd.Z_drew)); exact B.out) (zY x.out) (by decide) hg); replace a := mA (Zah (g := y) (o := .cells #[.int .i64 I, .int .i64 J, .slice X D.length U, .slice Y u.length W] 77 (0, 0)) (bP a.out) hg (zN x.out a.out (by decide))); replace q := mA (Zah (g := E) (o := mobj Value.string (Value.int .i64) d) (bP q.out) hg (Kd.R_nem x.out q.out)); replace x := mA (hp_); replace HB := mA ((by rw [hw]; exact Za9 (HB.out) e7.out : Below w.heap.size w dy)); clear hg hw hp_))
           go_roundg k4
           case measure => have := ae.out; have := ar.out; have := au.out; have := a0.out; omega
           case rel => exact ⟨(dr), (wrap64 (c + 1)), (d), (eW), H', ⟨by have := ae.out; have := ar.out; have := au.out; have := a0.out; omega⟩, ⟨by (try simp only [l]); (with_reducible repeat (first | apply zC | apply zD | apply zA)); exact zB m.out (fun _ hk => hk.2)⟩, ⟨by (try simp only [l]); exact rP x.out⟩, ⟨by (try simp only [l]); exact bP a.out⟩, ⟨by (try simp only [l]); exact bP q.out⟩, ⟨bW⟩⟩
          rw [if_neg bg] at H
          have d6 : mhas d (strOfNums O) = false := by simpa using bg
          clear bg
          obtain ⟨gj, H⟩ := gE H
          obtain ⟨d9, H⟩ := gE H
          (try (have ea := d9; simp only [l] at ea))
          obtain ⟨dz, co⟩ := nm ((T.set (c : Int).toNat (d.length : Int)) : List Int)
          rw [← co.out] at H
          have H' := mA H
          clear H
          have gl := Kd.Z_string (P := Tryd.prog) Tryd.underlying95 Tryd.underlying5 Tryd.underlying9 B.out
          go_wp2_with (first | ((with_reducible refine Zat (N := 107) rfl ?_); refine mgetS (eK := Value.string) (eV := (Value.int .i64)) (g := E) (L := d) 0 (strOfNums O) mkey_str (bP q.out) Tryd.underlying148 Tryd.underlying9 (Tryd.zeroValue2 _) ?_) | ((with_reducible refine Za6 (b := .len) (xs := #[.tmp 112]) rfl ?_); refine mlenS (eK := Value.string) (eV := (Value.int .i64)) (g := E) (L := d) (bP q.out) Tryd.underlying148 ?_; have gm := Kd.Z_string (P := Tryd.prog) Tryd.underlying95 Tryd.underlying5 Tryd.underlying9 B.out) | ((with_reducible refine gate_mset (t := 148) rfl ?_); refine msetS (eK := Value.string) (eV := (Value.int .i64)) (g := E) (L := d) (strOfNums O) (d.length : Int) mkey_str (bP q.out) Tryd.underlying148 Tryd.underlying9 ?_; intro eM hbk hg; replace m := mA (Kd.R_mset (rP m.out) (bP q.out) hg); replace x := mA (Kd.R_mset (rP x.out) (bP q.out) hg); replace B := mA (Kd.Z_mset (by (with_reducible repeat (first | apply Kd.Z_alloc | apply Kd.Z_drewN | apply Kd.Z_drew)); exact B.out) (bP q.out) hg); replace a := mA (Zah (g := y) (o := .cells #[.int .i64 I, .int .i64 J, .slice X D.length U, .slice Y u.length W] 77 (0, 0)) (bP a.out) hg (fun e_ => ab.out (Option.some.inj e_))); replace q := mA (hbk); replace HB := mA ((fun h_ => Below.grown h_ hg h_.size (fun k_ e_ => by injection e_ with e_; rw [← e_]; exact aJ.out)) (bW)); clear hg hbk; have dA : 0 ≤ (c : Int) := ofD; have dB : (c : Int) < ((T.length : Int) : Int) := ofD; obtain ⟨aW, bB, dC, dD, e8, gN, dE⟩ := yK x.out (by omega); (first | cases dC | (injection dC with ea_ en_ ec_; (first | subst ea_ | (injection ea_ with ea_; subst ea_)); subst ec_; clear en_)); have e9 := mA dD; have gO := mA dE; clear dD e8 dE; obtain ⟨f4, f5⟩ := yF 0 x.out (c : Int) dA dB; replace dA := eq_true dA; replace dB := eq_true dB; obtain ⟨gn, gp⟩ := yF 0 x.out (c : Int) (ofD) (ofD); have bZ := yI x.out (c : Int) (d.length : Int)) | ((with_reducible refine Zbq (t := 2) (p := 121) rfl ?_); refine Zdg (t := 2) (p := 121) (w1 := (eM.setCell ⟨aW, (c : Int).toNat, none⟩ (.int .i64 (d.length : Int)))) ?_; intro dG hw; have hg : eM.grownBy dG (some aW) := (by rw [hw]; exact bZ.2); have hp_ : Kd.R (Kd.int .i64) 2 dG w.heap.size (fun k_ => some k_ ≠ (.slice (some ad) s.length ak : Value).ownBlock) (.slice (some ⟨aW, 0, none⟩) T.length bB) dz := (by rw [hw, co.out]; exact bZ.1); clear bZ; replace m := mA (zR (v := (.slice (some ⟨aW, 0, none⟩) T.length bB)) (v1 := (.slice (some ⟨aW, 0, none⟩) T.length bB)) (ok := (fun _ => True)) (by (with_reducible repeat (first | apply zC | apply zD | apply zA)); exact zB m.out (fun _ hk => ⟨trivial, hk⟩)) hg (.inl rfl)); replace B := mA (Kd.Z_over' (v := (.slice (some ⟨aW, 0, none⟩) T.length bB)) (by (with_reducible repeat (first | apply Kd.Z_alloc | apply Kd.Z_drewN | apply Kd.Z_drew)); exact B.out) (zY x.out) (by decide) hg); replace a := mA (Zah (g := y) (o := .cells #[.int .i64 I, .int .i64 J, .slice X D.length U, .slice Y u.length W] 77 (0, 0)) (bP a.out) hg (zN x.out a.out (by decide))); replace q := mA (Zah (g := E) (o := mobj Value.string (Value.int .i64) (mset d (strOfNums O) (d.length : Int))) (bP q.out) hg (Kd.R_nem x.out q.out)); replace x := mA (hp_); replace HB := mA ((by rw [hw]; exact Za9 (HB.out) e9.out : Below w.heap.size w dG)); clear hg hw hp_))
          go_roundg k4
          case measure => have := ae.out; have := ar.out; have := au.out; have := a0.out; omega
          case rel => exact ⟨(dz), (wrap64 (c + 1)), (mset d (strOfNums O) (d.length : Int)), (eW), H', ⟨by have := ae.out; have := ar.out; have := au.out; have := a0.out; omega⟩, ⟨by (try simp only [l]); (with_reducible repeat (first | apply zC | apply zD | apply zA)); exact zB m.out (fun _ hk => hk.2)⟩, ⟨by (try simp only [l]); exact rP x.out⟩, ⟨by (try simp only [l]); exact bP a.out⟩, ⟨by (try simp only [l]); exact bP q.out⟩, ⟨bW⟩⟩
         rw [if_pos bf] at H
         have d5 := dT bf
         clear bf
         obtain ⟨gq, H⟩ := gE H
         obtain ⟨eb, H⟩ := gE H
         (try (have ec := eb; simp only [l] at ec))
         obtain ⟨gr, H⟩ := gE H
         obtain ⟨ed, H⟩ := gE H
         (try (have ee := ed; simp only [l] at ee))
         by_cases bh : (rd (Zam u c) A) ≥ 0; rotate_left
         ·rw [if_neg bh] at H
          have ef : decide (0 ≤ (rd (Zam u c) A)) = false := dF bh
          clear bh
          obtain ⟨bC, bD⟩ : ∃ y_ : List Int, y_ = (([((-1) / 256) % 256, ((-1)) % 256] : List Int)) := ⟨_, rfl⟩
          replace H := bsm bD H
          have cp := mA bD
          clear bD
          by_cases cq : O.length + bC.length < 140737488355328; rotate_left
          ·rw [if_neg cq] at H
           exact absurd H (by simp)
          rw [if_pos cq] at H
          have eg := mA cq
          clear cq
          obtain ⟨fa, cr⟩ := nm ((O ++ bC) : List Int)
          rw [← cr.out] at H
          have H' := mA H
          clear H
          have gs := ab.out
          have gu := ac.out
          have fz : wr.cell? ⟨y, 0, none⟩ = some (.int .i64 I) := bc a 0
          have fA : wr.cell? ⟨y, 1, none⟩ = some (.int .i64 J) := bc a 1
          have fB : wr.cell? ⟨y, 2, none⟩ = some (.slice X D.length U) := bc a 2
          have fC : wr.cell? ⟨y, 3, none⟩ = some (.slice Y u.length W) := bc a 3
          have fD := Zae a.out 0
          have fE := Zae a.out 1
          have fF := Zae a.out 2
          have fG := Zae a.out 3
          have aC : 0 ≤ (c : Int) := ofD
          have aD : c < (u.length : Int) := ofD
          obtain ⟨bE, dH, dI, b0, af, an, ao⟩ := at_L3 b9.out c aC aD
          cases b0
          replace af := (HB.out.cell (wB w af)).trans af
          have aX := mA ao
          have cE := mA an
          clear ao an
          replace aC := eq_true aC
          replace aD := eq_true aD
          have aE : 0 ≤ (A : Int) := ofD
          have aG : A < ((Zam u c).length : Int) := ofD
          obtain ⟨eh, b1, ag⟩ := zO aX.out A aE aG
          cases b1
          replace ag := (HB.out.cell (wB w ag)).trans ag
          replace aE := eq_true aE
          replace aG := eq_true aG
          go_wp2_with (first | ((with_reducible refine Zat (N := 100) rfl ?_); refine Kd.Z_lit (Kd.int .u8) _ 5 ?hg (N := 100) ?hd (xs := ([((-1) / 256) % 256, ((-1)) % 256] : List Int)) (inner := [.int .u8 (((-1) / 256) % 256), .int .u8 (((-1)) % 256)]) (ok := fun _ => True) (okp := fun _ => True) ?hr ?hp (fun _ hk => hk) trivial (Below.refl _ _) (Nat.le_refl _) (by simp) ?_; (case hd => rfl); (case hg => rfl); (case hr => first | (go_simp; done) | (go_simp; rfl)); (case hp => exact (Reps.one (show Kd.M (Kd.int .u8) _ _ _ (((-1) / 256) % 256) [.int .u8 (((-1) / 256) % 256)] from rfl) (Reps.one (show Kd.M (Kd.int .u8) _ _ _ (((-1)) % 256) [.int .u8 (((-1)) % 256)] from rfl) (Reps.none _ _)))); intro gP gY aY hb hg_ hnew_; clear hg_ hnew_; (first | rw [← cp.out] at aY | (simp only [Int.reduceToNat] at aY; rw [← cp.out] at aY)); replace m := mA (zK (rP m.out) hb); replace x := mA (zK (rP x.out) hb); have aK := mA (Kd.Z_lower (Kd.Z_new' aY (Kd.Z_lt (by (with_reducible repeat (first | apply Kd.Z_alloc | apply Kd.Z_drewN | apply Kd.Z_drew)); exact B.out))) (Zaj (bW))); replace B := mA (Kd.Z_elder' (by (with_reducible repeat (first | apply Kd.Z_alloc | apply Kd.Z_drewN | apply Kd.Z_drew)); exact B.out) (Kd.Z_base aY) hb); replace a := mA (blkB a.out hb); replace q := mA (blkB q.out hb); replace HB := mA (Zaf (bW) hb); clear hb aY; obtain ⟨fb, fc, fd⟩ := Kd.Z_slice aK.out; subst fd) | ((with_reducible refine Za6 (b := .append) (xs := #[.tmp 94, .tmp 100]) rfl ?_); at_builtin; refine Kd.Z_append_rows (Kd.int .u8) (w0 := w) w.heap.size rfl (.tmp 94) (.tmp 100) 95 5 (.int .u8 0) 1 rfl Tryd.underlying95 info5 rfl (by decide) (by omega) u11 O bC _ _ _ (fun k_ => some k_ ≠ (.slice fb bC.length fc : Value).ownBlock) (fun _ => False) rfl rfl ?aO ?aR (fun _ _ h => h) (fun _ h => h.elim) ?aF ?aB ?aS ?aL ?_; (case aR => exact cP ((Kd.Z_reads' aK.out).2.2)); (case aB => exact (bW)); (case aF => exact (fun k_ hk => zT (Kd.Z_lt (by (with_reducible repeat (first | apply Kd.Z_alloc | apply Kd.Z_drewN | apply Kd.Z_drew)); exact aK.out)) k_ hk)); (case aO => exact (by (with_reducible repeat (first | apply Kd.Z_alloc | apply Kd.Z_drewN | apply Kd.Z_drew)); exact Kd.Z_mono B.out (fun _ hk => hk.2))); (case aS => exact (Zaj (bW))); (case aL => have := eg.out; omega); intro gQ gZ ho hb hg hat; rw [← cr.out] at ho; replace m := mA (Kd.R_overZ' (rP m.out) (Kd.Z_typed (by (with_reducible repeat (first | apply Kd.Z_alloc | apply Kd.Z_drewN | apply Kd.Z_drew)); exact B.out)) (by decide) hg); replace x := mA (Kd.R_overZ' (rP x.out) (Kd.Z_typed (by (with_reducible repeat (first | apply Kd.Z_alloc | apply Kd.Z_drewN | apply Kd.Z_drew)); exact B.out)) (by decide) hg); replace a := mA (Zah (g := y) (o := .cells #[.int .i64 I, .int .i64 J, .slice X D.length U, .slice (some bE) u.length W] 77 (0, 0)) (bP a.out) hg (Kd.Z_ne B.out a.out (by decide))); replace q := mA (Zah (g := E) (o := mobj Value.string (Value.int .i64) d) (bP q.out) hg (Kd.Z_nem B.out q.out)); replace aK := mA (Kd.Z_after (ok := (fun _ => True)) (by (with_reducible repeat (first | apply Kd.Z_alloc | apply Kd.Z_drewN | apply Kd.Z_drew)); exact aK.out) hg hat); replace HB := mA (hb); have ei := mA (ho); clear B ho hb hg hat))
          go_roundg k4
          case measure => have := ae.out; have := ar.out; have := au.out; have := a0.out; omega
          case rel => exact ⟨(fa), (wrap64 (A + 1)), (eW), H', ⟨by have := ae.out; have := ar.out; have := au.out; have := a0.out; omega⟩, ⟨by (try simp only [l]); exact rP m.out⟩, ⟨by (try simp only [l]); exact rP x.out⟩, ⟨by (try simp only [l]); (with_reducible repeat (first | apply Kd.Z_alloc | apply Kd.Z_drewN | apply Kd.Z_drew)); exact Kd.Z_mono ei.out (fun _ hk => trivial)⟩, ⟨by (try simp only [l]); exact bP a.out⟩, ⟨by (try simp only [l]); exact bP q.out⟩, ⟨bW⟩⟩
         rw [if_pos bh] at H
         have ef : decide (0 ≤ (rd (Zam u c) A)) = true := dT bh
         clear bh
         obtain ⟨gv, H⟩ := gE H
         obtain ⟨ej, H⟩ := gE H
         (try (have ek := ej; simp only [l] at ek))
         obtain ⟨bF, bG⟩ : ∃ y_ : List Int, y_ = (([((rd s (rd (Zam u c) A)) / 256) % 256, (rd s (rd (Zam u c) A)) % 256] : List Int)) := ⟨_, rfl⟩
         replace H := bsm bG H
         have ct := mA bG
         clear bG
         by_cases cu : O.length + bF.length < 140737488355328; rotate_left
         ·rw [if_neg cu] at H
          exact absurd H (by simp)
         rw [if_pos cu] at H
         have el := mA cu
         clear cu
         obtain ⟨fe, cv⟩ := nm ((O ++ bF) : List Int)
         rw [← cv.out] at H
         have H' := mA H
         clear H
         have gw := ab.out
         have gx := ac.out
         have fH : wr.cell? ⟨y, 0, none⟩ = some (.int .i64 I) := bc a 0
         have fI : wr.cell? ⟨y, 1, none⟩ = some (.int .i64 J) := bc a 1
         have fJ : wr.cell? ⟨y, 2, none⟩ = some (.slice X D.length U) := bc a 2
         have fK : wr.cell? ⟨y, 3, none⟩ = some (.slice Y u.length W) := bc a 3
         have fL := Zae a.out 0
         have fM := Zae a.out 1
         have fN := Zae a.out 2
         have fO := Zae a.out 3
         have aC : 0 ≤ (c : Int) := ofD
         have aD : c < (u.length : Int) := ofD
         obtain ⟨bE, dH, dI, b0, af, an, ao⟩ := at_L3 b9.out c aC aD
         cases b0
         replace af := (HB.out.cell (wB w af)).trans af
         have aX := mA ao
         have cE := mA an
         clear ao an
         replace aC := eq_true aC
         replace aD := eq_true aD
         have aE : 0 ≤ (A : Int) := ofD
         have aG : A < ((Zam u c).length : Int) := ofD
         obtain ⟨eh, b1, ag⟩ := zO aX.out A aE aG
         cases b1
         replace ag := (HB.out.cell (wB w ag)).trans ag
         replace aE := eq_true aE
         replace aG := eq_true aG
         have b2 : 0 ≤ ((rd (Zam u c) A) : Int) := ofD
         have b3 : (rd (Zam u c) A) < (s.length : Int) := ofD
         obtain ⟨em, ff, fP⟩ := zO (zJ m.out).2.2 (rd (Zam u c) A) b2 b3
         obtain rfl : ad = em := (by injection ff)
         replace b2 := eq_true b2
         replace b3 := eq_true b3
         go_wp2_with (first | ((with_reducible refine Zat (N := 100) rfl ?_); refine Kd.Z_lit (Kd.int .u8) _ 5 ?hg (N := 100) ?hd (xs := ([((rd s (rd (Zam u c) A)) / 256) % 256, (rd s (rd (Zam u c) A)) % 256] : List Int)) (inner := [.int .u8 (((rd s (rd (Zam u c) A)) / 256) % 256), .int .u8 ((rd s (rd (Zam u c) A)) % 256)]) (ok := fun _ => True) (okp := fun _ => True) ?hr ?hp (fun _ hk => hk) trivial (Below.refl _ _) (Nat.le_refl _) (by simp) ?_; (case hd => rfl); (case hg => rfl); (case hr => first | (go_simp; done) | (go_simp; rfl)); (case hp => exact (Reps.one (show Kd.M (Kd.int .u8) _ _ _ (((rd s (rd (Zam u c) A)) / 256) % 256) [.int .u8 (((rd s (rd (Zam u c) A)) / 256) % 256)] from rfl) (Reps.one (show Kd.M (Kd.int .u8) _ _ _ ((rd s (rd (Zam u c) A)) % 256) [.int .u8 ((rd s (rd (Zam u c) A)) % 256)] from rfl) (Reps.none _ _)))); intro gR g0 aZ hb hg_ hnew_; clear hg_ hnew_; (first | rw [← ct.out] at aZ | (simp only [Int.reduceToNat] at aZ; rw [← ct.out] at aZ)); replace m := mA (zK (rP m.out) hb); replace x := mA (zK (rP x.out) hb); have aM := mA (Kd.Z_lower (Kd.Z_new' aZ (Kd.Z_lt (by (with_reducible repeat (first | apply Kd.Z_alloc | apply Kd.Z_drewN | apply Kd.Z_drew)); exact B.out))) (Zaj (bW))); replace B := mA (Kd.Z_elder' (by (with_reducible repeat (first | apply Kd.Z_alloc | apply Kd.Z_drewN | apply Kd.Z_drew)); exact B.out) (Kd.Z_base aZ) hb); replace a := mA (blkB a.out hb); replace q := mA (blkB q.out hb); replace HB := mA (Zaf (bW) hb); clear hb aZ; obtain ⟨fg, fh, fi⟩ := Kd.Z_slice aM.out; subst fi) | ((with_reducible refine Za6 (b := .append) (xs := #[.tmp 94, .tmp 100]) rfl ?_); at_builtin; refine Kd.Z_append_rows (Kd.int .u8) (w0 := w) w.heap.size rfl (.tmp 94) (.tmp 100) 95 5 (.int .u8 0) 1 rfl Tryd.underlying95 info5 rfl (by decide) (by omega) u11 O bF _ _ _ (fun k_ => some k_ ≠ (.slice fg bF.length fh : Value).ownBlock) (fun _ => False) rfl rfl ?aO ?aR (fun _ _ h => h) (fun _ h => h.elim) ?aF ?aB ?aS ?aL ?_; (case aR => exact cP ((Kd.Z_reads' aM.out).2.2)); (case aB => exact (bW)); (case aF => exact (fun k_ hk => zT (Kd.Z_lt (by (with_reducible repeat (first | apply Kd.Z_alloc | apply Kd.Z_drewN | apply Kd.Z_drew)); exact aM.out)) k_ hk)); (case aO => exact (by (with_reducible repeat (first | apply Kd.Z_alloc | apply Kd.Z_drewN | apply Kd.Z_drew)); exact Kd.Z_mono B.out (fun _ hk => hk.2))); (case aS => exact (Zaj (bW))); (case aL => have := el.out; omega); intro gS g1 ho hb hg hat; rw [← cv.out] at ho; replace m := mA (Kd.R_overZ' (rP m.out) (Kd.Z_typed (by (with_reducible repeat (first | apply Kd.Z_alloc | apply Kd.Z_drewN | apply Kd.Z_drew)); exact B.out)) (by decide) hg); replace x := mA (Kd.R_overZ' (rP x.out) (Kd.Z_typed (by (with_reducible repeat (first | apply Kd.Z_alloc | apply Kd.Z_drewN | apply Kd.Z_drew)); exact B.out)) (by decide) hg); replace a := mA (Zah (g := y) (o := .cells #[.int .i64 I, .int .i64 J, .slice X D.length U, .slice (some bE) u.length W] 77 (0, 0)) (bP a.out) hg (Kd.Z_ne B.out a.out (by decide))); replace q := mA (Zah (g := E) (o := mobj Value.string (Value.int .i64) d) (bP q.out) hg (Kd.Z_nem B.out q.out)); replace aM := mA (Kd.Z_after (ok := (fun _ => True)) (by (with_reducible repeat (first | apply Kd.Z_alloc | apply Kd.Z_drewN | apply Kd.Z_drew)); exact aM.out) hg hat); replace HB := mA (hb); have en := mA (ho); clear B ho hb hg hat))
         go_roundg k4
         case measure => have := ae.out; have := ar.out; have := au.out; have := a0.out; omega
         case rel => exact ⟨(fe), (wrap64 (A + 1)), (eW), H', ⟨by have := ae.out; have := ar.out; have := au.out; have := a0.out; omega⟩, ⟨by (try simp only [l]); exact rP m.out⟩, ⟨by (try simp only [l]); exact rP x.out⟩, ⟨by (try simp only [l]); (with_reducible repeat (first | apply Kd.Z_alloc | apply Kd.Z_drewN | apply Kd.Z_drew)); exact Kd.Z_mono en.out (fun _ hk => trivial)⟩, ⟨by (try simp only [l]); exact bP a.out⟩, ⟨by (try simp only [l]); exact bP q.out⟩, ⟨bW⟩⟩
end Go.Proofs.YtjdkedmdeajmgaaDoor.P
end M0
