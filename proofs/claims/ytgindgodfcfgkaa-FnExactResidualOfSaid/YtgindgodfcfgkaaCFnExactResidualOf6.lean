import Derived.Test.YtgindgodfcfgkaaCFnExactResidualOf3
import Derived.Test.YtgindgodfcfgkaaCFnExactResidualOf5
section M0
namespace Go.Proofs.Ytgindgodfcfgkaa.P
open Go.RowKit Go.Proofs.Ytgindgodfcfgkaa.Sh Go.Proofs.YtgindgodfcfgkaaW.PrintWords Go.Proofs.YtgindgodfcfgkaaW.PrintLast Go.Proofs.YtgindgodfcfgkaaW.PrintMore
open Kd
attribute [local go_sem] Zcc Zcd Zck Zcl Zb2 Zb3 Zce Zcb   -- for this text's walks alone
set_option linter.unusedVariables false
set_option linter.unusedSimpArgs false
mutual
def Zal.l0 : Nat → List Bool → List Int → Int → Int → Int → Int → List Bool → List (List Int) → Option (List Int)
 | 0, _, _, _, _, _, _, _, _ => none
 | k + 1, x1, x5, g, b, c, d, a, e => if b < g then (if 0 ≤ b then (if b < (x1.length : Int) then (if rdOf false x1 b = true then (if b < (a.length : Int) then (if rdOf false a b = true then (if b < (x5.length : Int) then (Zal.l0 k x1 (x5.set (b : Int).toNat 1) g (wrap64 (b + 1)) c d a e) else (none)) else (Zal.l0 k x1 x5 g (wrap64 (b + 1)) c d a e)) else (none)) else (if b < (x5.length : Int) then (Zal.l0 k x1 (x5.set (b : Int).toNat (-1)) g (wrap64 (b + 1)) c d a e) else (none))) else (none)) else (none)) else (Zal.l1 k x5 0 c d a e)
def Zal.l1 : Nat → List Int → Int → Int → Int → List Bool → List (List Int) → Option (List Int)
 | 0, _, _, _, _, _, _ => none
 | k + 1, x5, x7, a, b, c, d => if 0 ≤ (x5.length : Int) then (if ((x5.length : Int) : Int).toNat ≤ 35184372088832 then (Zal.l2 k x5 x7 (List.replicate ((x5.length : Int) : Int).toNat 0) (x5.length : Int) 0 a b c d ([] : List (ByteArray × Int))) else (none)) else (none)
def Zal.l2 : Nat → List Int → Int → List Int → Int → Int → Int → Int → List Bool → List (List Int) → List (ByteArray × Int) → Option (List Int)
 | 0, _, _, _, _, _, _, _, _, _, _ => none
 | k + 1, x5, x7, x9, h, a, b, d, e, g, c => if a < h then (if 0 ≤ a then (if a < (x5.length : Int) then (if (rd x5 a) < 0 then (if a < (x9.length : Int) then (Zal.l2 k x5 x7 (x9.set (a : Int).toNat (-1)) h (wrap64 (a + 1)) b d e g c) else (none)) else ((Zb0.f k (([(rd x5 a) / 256, Go.bits .and .i64 (rd x5 a) 255] : List Int))).bind fun i => (if i.size ≤ 140737488355328 then (Zal.l3 k x5 x7 x9 a (bytesOf i) h a b 0 b d e g c) else (none)))) else (none)) else (none)) else (if (c.length : Int) = x7 then (some x9) else (Zal.l1 k x9 (c.length : Int) b d e g))
def Zal.l3 : Nat → List Int → Int → List Int → Int → List Int → Int → Int → Int → Int → Int → Int → List Bool → List (List Int) → List (ByteArray × Int) → Option (List Int)
 | 0, _, _, _, _, _, _, _, _, _, _, _, _, _, _ => none
 | k + 1, x5, x7, x9, c, i, j, l, m, h, d, e, g, a, b => if h < m then (if 0 ≤ c then (if c < (a.length : Int) then (if 0 ≤ h then (if h < ((Zah a c).length : Int) then (if (rd (Zah a c) h) ≥ 0 then (if 0 ≤ (rd (Zah a c) h) then (if (rd (Zah a c) h) < (x5.length : Int) then ((some (([((rd x5 (rd (Zah a c) h)) / 256) % 256, (rd x5 (rd (Zah a c) h)) % 256] : List Int) : List Int)).bind fun n => (if i.length + n.length < 140737488355328 then (Zal.l3 k x5 x7 x9 c (i ++ n) j l m (wrap64 (h + 1)) d e g a b) else (none))) else (none)) else (none)) else ((some (([((-1) / 256) % 256, ((-1)) % 256] : List Int) : List Int)).bind fun o => (if i.length + o.length < 140737488355328 then (Zal.l3 k x5 x7 x9 c (i ++ o) j l m (wrap64 (h + 1)) d e g a b) else (none)))) else (none)) else (none)) else (none)) else (none)) else (if (mhas b (strOfNums i) = true) then (if 0 ≤ c then (if c < (x9.length : Int) then (Zal.l2 k x5 x7 (x9.set (c : Int).toNat (mget 0 b (strOfNums i))) j (wrap64 (l + 1)) d e g a b) else (none)) else (none)) else (if 0 ≤ c then (if c < (x9.length : Int) then (Zal.l2 k x5 x7 (x9.set (c : Int).toNat (b.length : Int)) j (wrap64 (l + 1)) d e g a (mset b (strOfNums i) (b.length : Int))) else (none)) else (none)))
end
def Zal.f (k : Nat) (c : Int) (d : Int) (e : List Bool) (a : List (List Int)) (l1 : List Bool) : Option (List Int) := if 0 ≤ (a.length : Int) then (if ((a.length : Int) : Int).toNat ≤ 35184372088832 then ((some (List.replicate ((a.length : Int) : Int).toNat 0 : List Int)).bind fun b => (Zal.l0 k l1 b (b.length : Int) 0 c d e a)) else (none)) else (none)
def Zal.T17 : Bool × List (List Nat × List Nat) := (true, [([], []), ([], []), ([0, 1], [0, 1]), ([2], [2]), ([3], [3]), ([], []), ([], []), ([5, 6], [5, 6]), ([7], [7]), ([8], [8]), ([4, 9], [4, 9]), ([10], [10]), ([11], [11]), ([12, 11, 0, 1, 2, 3, 4, 5, 6, 7, 8, 9, 10, 11, 12], [12])])
def Zal.B17 : List Nat := [0, 0, 3, 7, 15, 0, 0, 96, 224, 480, 1023, 2047, 4095, 8191]
theorem Zal.tab17 : rtab .any (opsOf Try.f97 17) = Zal.T17 := by kernel_rfl
theorem Zal.bits17 : Zda Zal.T17.2 Zal.B17 = true := by kernel_rfl
set_option maxHeartbeats 8000000 in
set_option maxRecDepth 100000 in
theorem Zal.calls (k : Nat) (I : Int) (J : Int) (Y : Option Addr) (W : Nat) (E : List Bool) (aa : Option Addr) (X : Nat) (u : List (List Int)) (A1 : Option Addr) (c1 : Nat) (l1 : List Bool) (r : List Int) (w : World) (df : Kd.C Kd.bool w Y E.length E) (dg : E.length ≤ W) (dh : Kd.C (Kd.slice 2 (Kd.int .i64)) w aa u.length u) (di : u.length ≤ X) (fm : Kd.C Kd.bool w A1 l1.length l1) (fn : l1.length ≤ c1) (h : Zal.f k I J E u l1 = some r) :
  Calls Try.prog 97 #[.agg #[.int .i64 I, .int .i64 J, .slice Y E.length W, .slice aa u.length X], .slice A1 l1.length c1] w fun e w' => ∃ fo : Value, e = .returned (fo) ∧ Kd.R (Kd.int .i64) 2 w' w.heap.size (fun _ => True) fo r ∧ Below w.heap.size w w' := by
 have g1 := Try.underlying63
 have dj := mA df
 have gF := mA dg
 clear df dg
 have dk := mA dh
 have gG := mA di
 clear dh di
 have d0 := mA fm
 have hu := mA fn
 clear fm fn
 have HB := mA (Below.refl w.heap.size w)
 unfold Zal.f at h
 have H := h
 clear h
 by_cases c3 : 0 ≤ (u.length : Int); rotate_left
 ·rw [if_neg c3] at H
  exact absurd H (by simp)
 rw [if_pos c3] at H
 have b5 := eq_true c3
 have b6 := dT c3
 clear c3
 by_cases c4 : ((u.length : Int) : Int).toNat ≤ 35184372088832; rotate_left
 ·rw [if_neg c4] at H
  exact absurd H (by simp)
 rw [if_pos c4] at H
 have b7 := eq_true c4
 have b8 := dT c4
 clear c4
 obtain ⟨b9, ca⟩ : ∃ y_ : List Int, y_ = (List.replicate ((u.length : Int) : Int).toNat 0) := ⟨_, rfl⟩
 replace H := bsm ca H
 have dl := mA ca
 clear ca
 have H' := mA H
 clear H
 go_enter Try.func97, Try.ntmps97
 go_wp2_with (first | ((with_reducible refine Zap (N := 2) rfl ?_); refine boxS (N := 2) (cs := #[.int .i64 I, .int .i64 J, .slice Y E.length W, .slice aa u.length X]) (t := 63) ?_; intro z hg w5 hbox hb; have a := mA (hbox); have gH := geW (w := w) hg; have gI := geW (w := w) hg; replace HB := mA (Zaf (bW) hb); clear hb hbox hg; obtain ⟨aH, aI, aJ, aK⟩ := Zau a.out; obtain ⟨aM, aN, aP, aQ⟩ := frz4 a.out) | ((with_reducible refine Zap (N := 20) rfl ?_); refine xI (Kd.int .i64) _ 2 rfl (N := 20) rfl 33 _ _ rfl (u.length : Int) rfl rfl Try.underlying33 (.int .i64 0) 8 info2 rfl (by decide) (by omega) 0 (ok := fun _ => True) (okp := fun _ => True) rfl (fun _ hk => hk) trivial (ofD) (Nat.le_trans (Nat.mul_le_mul_right _ (ofD : (u.length : Int).toNat ≤ 35184372088832)) (by omega)) (Below.refl _ _) (Nat.le_refl _) ?_; intro g2 w7 cI hb hg_ hnew_; clear hg_ hnew_; (first | rw [← dl.out] at cI | (simp only [Int.reduceToNat] at cI; rw [← dl.out] at cI)); have dm := mA (zV cI (Zan (bW))); replace a := mA (blkB a.out hb); replace HB := mA (Zaf (bW) hb); clear hb cI; obtain ⟨gu, d1, gv⟩ := zP dm.out; subst gv))
 go_loopg [23] k (fun kq v23 w' => ∃ (ah : List Int) (x : Int), v23 = .int .i64 x ∧ Zad (Zal.l0 kq l1 ah (b9.length : Int) x I J E u = some r) ∧ Zad (kq ≤ k) ∧ Zad (Kd.R (Kd.int .i64) 2 w' w.heap.size (fun _ => True) (.slice gu b9.length d1) ah) ∧ Zad (w'.heap[z]? = some (.cells #[.int .i64 I, .int .i64 J, (.slice Y E.length W), (.slice aa u.length X)] 63 (0, 0))) ∧ Zad (Below w.heap.size w w'))
 case atStart => exact ⟨(b9), (0), (eW), H', ⟨Nat.le_refl _⟩, ⟨rP dm.out⟩, ⟨bP a.out⟩, ⟨bW⟩⟩
 case round =>
  clear H'
  try clear c1
  try clear p2
  try clear c3
  try clear b5
  try clear b6
  try clear c4
  try clear b7
  try clear b8
  try clear c9
  try clear aH
  try clear aI
  try clear aJ
  try clear aK
  try clear aM
  try clear aN
  try clear aP
  try clear aQ
  obtain ⟨ah, x, rfl, HA, ag, m, a, HB⟩ := hrel
  have l := (zK m.out).1
  rw [l] at m
  (try simp only [l])
  (try simp only [l] at a)
  cases gk with
  | zero => exact absurd HA.out (by simp [Zal.l0])
  | succ k1 =>
   have H := HA.out
   clear HA
   simp only [Zal.l0] at H
   by_cases c10 : x < (b9.length : Int)
   ·rw [if_pos c10] at H
    have az := dT c10
    (try (have cb := az; simp only [l] at cb))
    clear c10
    by_cases bF : 0 ≤ x; rotate_left
    ·rw [if_neg bF] at H
     exact absurd H (by simp)
    rw [if_pos bF] at H
    have cc := dT bF
    clear bF
    by_cases bG : x < (l1.length : Int); rotate_left
    ·rw [if_neg bG] at H
     exact absurd H (by simp)
    rw [if_pos bG] at H
    have bv := dT bG
    (try (have eH := bv; simp only [l] at eH))
    clear bG
    obtain ⟨fI, cd⟩ : ∃ b_ : Bool, b_ = (rdOf false l1 x) := ⟨_, rfl⟩
    rw [← cd] at H
    have aT := mA cd
    clear cd
    by_cases bH : fI = true; rotate_left
    ·replace bH := Bool.eq_false_iff.mpr bH
     subst bH
     rw [iF] at H
     by_cases bI : x < (ah.length : Int); rotate_left
     ·rw [if_neg bI] at H
      exact absurd H (by simp)
     rw [if_pos bI] at H
     have bw := dT bI
     (try (have eI := bw; simp only [l] at eI))
     clear bI
     obtain ⟨d2, ce⟩ : ∃ y_ : List Int, y_ = (ah.set (x : Int).toNat (-1)) := ⟨_, rfl⟩
     rw [← ce] at H
     have eJ := mA ce
     clear ce
     have H' := mA H
     clear H
     have ad : 0 ≤ (x : Int) := ofD
     have ae : x < (l1.length : Int) := ofD
     obtain ⟨dn, bJ, B⟩ := yC d0.out x ad ae
     (try rw [← aT.out] at B)
     cases bJ
     replace B := (HB.out.cell (wB w B)).trans B
     replace ad := eq_true ad
     replace ae := eq_true ae
     have aU : 0 ≤ (x : Int) := ofD
     have aV : (x : Int) < ((ah.length : Int) : Int) := ofD
     obtain ⟨cR, g3, d3, d4, fJ, g4, d5⟩ := yM m.out (by omega)
     (first | cases d3 | (injection d3 with ea_ en_ ec_; (first | subst ea_ | (injection ea_ with ea_; subst ea_)); subst ec_; clear en_))
     have fK := mA d4
     have g5 := mA d5
     clear d4 fJ d5
     obtain ⟨bK, gw⟩ := yF 0 m.out (x : Int) aU aV
     replace aU := eq_true aU
     replace aV := eq_true aV
     have cS := yG m.out (x : Int) (-1)
     go_wp2_with (first | ((with_reducible refine Zbl (t := 2) (p := 34) rfl ?_); refine Zc2 (t := 2) (p := 34) (w1 := (wr.setCell ⟨cR, (x : Int).toNat, none⟩ (.int .i64 (-1)))) ?_; intro d6 hw; have hg : wr.grownBy d6 (some cR) := (by rw [hw]; exact cS.2); have hp_ : Kd.R (Kd.int .i64) 2 d6 w.heap.size (fun _ => True) (.slice (some ⟨cR, 0, none⟩) ah.length d1) d2 := (by rw [hw, eJ.out]; exact cS.1); clear cS; replace a := mA (Zaq (g := z) (o := .cells #[.int .i64 I, .int .i64 J, .slice Y E.length W, .slice aa u.length X] 63 (0, 0)) (bP a.out) hg (zQ m.out a.out (by decide))); replace m := mA (hp_); replace HB := mA ((by rw [hw]; exact Za7 (HB.out) fK.out : Below w.heap.size w d6)); clear hg hw hp_))
     (try simp only [← l])
     go_roundg k1
     case measure => have := ag.out; omega
     case rel => exact ⟨(d2), (wrap64 (x + 1)), (eW), H', ⟨by have := ag.out; omega⟩, ⟨by (try simp only [l]); exact rP m.out⟩, ⟨by (try simp only [l]); exact bP a.out⟩, ⟨bW⟩⟩
    subst bH
    rw [if_pos rfl] at H
    by_cases bL : x < (E.length : Int); rotate_left
    ·rw [if_neg bL] at H
     exact absurd H (by simp)
    rw [if_pos bL] at H
    have bx := dT bL
    (try (have eL := bx; simp only [l] at eL))
    clear bL
    obtain ⟨fL, cf⟩ : ∃ b_ : Bool, b_ = (rdOf false E x) := ⟨_, rfl⟩
    rw [← cf] at H
    have bz := mA cf
    clear cf
    by_cases bM : fL = true; rotate_left
    ·replace bM := Bool.eq_false_iff.mpr bM
     subst bM
     rw [iF] at H
     have H' := mA H
     clear H
     have ad : 0 ≤ (x : Int) := ofD
     have ae : x < (l1.length : Int) := ofD
     obtain ⟨dn, bJ, B⟩ := yC d0.out x ad ae
     (try rw [← aT.out] at B)
     (try rw [← bz.out] at B)
     cases bJ
     replace B := (HB.out.cell (wB w B)).trans B
     replace ad := eq_true ad
     replace ae := eq_true ae
     have a1 : wr.cell? ⟨z, 0, none⟩ = some (.int .i64 I) := bc a 0
     have a2 : wr.cell? ⟨z, 1, none⟩ = some (.int .i64 J) := bc a 1
     have a3 : wr.cell? ⟨z, 2, none⟩ = some (.slice Y E.length W) := bc a 2
     have a4 : wr.cell? ⟨z, 3, none⟩ = some (.slice aa u.length X) := bc a 3
     have a5 := Zae a.out 0
     have a6 := Zae a.out 1
     have a7 := Zae a.out 2
     have a8 := Zae a.out 3
     have al : 0 ≤ (x : Int) := ofD
     have am : x < (E.length : Int) := ofD
     obtain ⟨dp, cT, T⟩ := yC dj.out x al am
     (try rw [← aT.out] at T)
     (try rw [← bz.out] at T)
     cases cT
     replace T := (HB.out.cell (wB w T)).trans T
     replace al := eq_true al
     replace am := eq_true am
     go_wp2
     (try simp only [← l])
     go_roundg k1
     case measure => have := ag.out; omega
     case rel => exact ⟨(ah), (wrap64 (x + 1)), (eW), H', ⟨by have := ag.out; omega⟩, ⟨by (try simp only [l]); exact rP m.out⟩, ⟨by (try simp only [l]); exact bP a.out⟩, ⟨bW⟩⟩
    subst bM
    rw [if_pos rfl] at H
    by_cases bN : x < (ah.length : Int); rotate_left
    ·rw [if_neg bN] at H
     exact absurd H (by simp)
    rw [if_pos bN] at H
    have bA := dT bN
    (try (have eM := bA; simp only [l] at eM))
    clear bN
    obtain ⟨d7, cg⟩ : ∃ y_ : List Int, y_ = (ah.set (x : Int).toNat 1) := ⟨_, rfl⟩
    rw [← cg] at H
    have eN := mA cg
    clear cg
    have H' := mA H
    clear H
    have ad : 0 ≤ (x : Int) := ofD
    have ae : x < (l1.length : Int) := ofD
    obtain ⟨dn, bJ, B⟩ := yC d0.out x ad ae
    (try rw [← aT.out] at B)
    (try rw [← bz.out] at B)
    cases bJ
    replace B := (HB.out.cell (wB w B)).trans B
    replace ad := eq_true ad
    replace ae := eq_true ae
    have a9 : wr.cell? ⟨z, 0, none⟩ = some (.int .i64 I) := bc a 0
    have ba : wr.cell? ⟨z, 1, none⟩ = some (.int .i64 J) := bc a 1
    have bb : wr.cell? ⟨z, 2, none⟩ = some (.slice Y E.length W) := bc a 2
    have bd : wr.cell? ⟨z, 3, none⟩ = some (.slice aa u.length X) := bc a 3
    have bf := Zae a.out 0
    have bg := Zae a.out 1
    have bh := Zae a.out 2
    have bi := Zae a.out 3
    have al : 0 ≤ (x : Int) := ofD
    have am : x < (E.length : Int) := ofD
    obtain ⟨dp, cT, T⟩ := yC dj.out x al am
    (try rw [← aT.out] at T)
    (try rw [← bz.out] at T)
    cases cT
    replace T := (HB.out.cell (wB w T)).trans T
    replace al := eq_true al
    replace am := eq_true am
    have aW : 0 ≤ (x : Int) := ofD
    have aX : (x : Int) < ((ah.length : Int) : Int) := ofD
    obtain ⟨cU, g6, d8, d9, fM, g7, ea⟩ := yM m.out (by omega)
    (first | cases d8 | (injection d8 with ea_ en_ ec_; (first | subst ea_ | (injection ea_ with ea_; subst ea_)); subst ec_; clear en_))
    have fN := mA d9
    have g8 := mA ea
    clear d9 fM ea
    obtain ⟨bO, gx⟩ := yF 0 m.out (x : Int) aW aX
    replace aW := eq_true aW
    replace aX := eq_true aX
    have cV := yG m.out (x : Int) 1
    go_wp2_with (first | ((with_reducible refine Zbl (t := 2) (p := 43) rfl ?_); refine Zc2 (t := 2) (p := 43) (w1 := (wr.setCell ⟨cU, (x : Int).toNat, none⟩ (.int .i64 1))) ?_; intro eb hw; have hg : wr.grownBy eb (some cU) := (by rw [hw]; exact cV.2); have hp_ : Kd.R (Kd.int .i64) 2 eb w.heap.size (fun _ => True) (.slice (some ⟨cU, 0, none⟩) ah.length d1) d7 := (by rw [hw, eN.out]; exact cV.1); clear cV; replace a := mA (Zaq (g := z) (o := .cells #[.int .i64 I, .int .i64 J, .slice (some dp) E.length W, .slice aa u.length X] 63 (0, 0)) (bP a.out) hg (zQ m.out a.out (by decide))); replace m := mA (hp_); replace HB := mA ((by rw [hw]; exact Za7 (HB.out) fN.out : Below w.heap.size w eb)); clear hg hw hp_))
    (try simp only [← l])
    go_roundg k1
    case measure => have := ag.out; omega
    case rel => exact ⟨(d7), (wrap64 (x + 1)), (eW), H', ⟨by have := ag.out; omega⟩, ⟨by (try simp only [l]); exact rP m.out⟩, ⟨by (try simp only [l]); exact bP a.out⟩, ⟨bW⟩⟩
   rw [if_neg c10] at H
   have az := dF c10
   (try (have cb := az; simp only [l] at cb))
   clear c10
   have H' := mA H
   clear H
   go_wp2
   go_loopg [5, 7] k1 (fun kq v5 v7 w' => ∃ (s : List Int) (an : Int), v7 = .int .i64 an ∧ Zad (Zal.l1 kq s an I J E u = some r) ∧ Zad (kq ≤ k1) ∧ Zad (Kd.R (Kd.int .i64) 2 w' w.heap.size (fun _ => True) v5 s) ∧ Zad (w'.heap[z]? = some (.cells #[.int .i64 I, .int .i64 J, (.slice Y E.length W), (.slice aa u.length X)] 63 (0, 0))) ∧ Zad (Below w.heap.size w w'))
   case atStart => exact ⟨(ah), (0), (eW), H', ⟨Nat.le_refl _⟩, ⟨by (try simp only [l]); exact rP m.out⟩, ⟨by (try simp only [l]); exact bP a.out⟩, ⟨bW⟩⟩
   case round =>
    clear H'
    try clear c1
    try clear p1
    try clear q1
    try clear hx1
    try clear c2
    try clear p2
    try clear q2
    try clear hx2
    try clear hf2
    try clear c3
    try clear b5
    try clear b6
    try clear p3
    try clear q3
    try clear hx3
    try clear c4
    try clear b7
    try clear b8
    try clear p6
    try clear c9
    try clear c10
    try clear az
    try clear bF
    try clear cc
    try clear bG
    try clear bv
    try clear q13
    try clear bH
    try clear bL
    try clear bx
    try clear q16
    try clear bM
    try clear bN
    try clear bA
    try clear aW
    try clear aX
    try clear hx19
    try clear hf19
    try clear bI
    try clear bw
    try clear aU
    try clear aV
    try clear hx25
    try clear hf25
    try clear a9
    try clear ba
    try clear bb
    try clear bd
    try clear a1
    try clear a2
    try clear a3
    try clear a4
    try clear aH
    try clear aI
    try clear aJ
    try clear aK
    try clear bf
    try clear bg
    try clear bh
    try clear bi
    try clear a5
    try clear a6
    try clear a7
    try clear a8
    try clear aM
    try clear aN
    try clear aP
    try clear aQ
    try clear bO
    try clear bK
    try clear B
    try clear T
    try clear aW
    try clear p2
    try clear aU
    try clear ad
    try clear al
    try clear aX
    try clear aV
    try clear ae
    try clear am
    obtain ⟨s, an, rfl, HA, av, m, a, HB⟩ := hrel
    cases gk with
    | zero => exact absurd HA.out (by simp [Zal.l1])
    | succ k2 =>
     have H := HA.out
     clear HA
     simp only [Zal.l1] at H
     by_cases bQ : 0 ≤ (s.length : Int); rotate_left
     ·rw [if_neg bQ] at H
      exact absurd H (by simp)
     rw [if_pos bQ] at H
     have dq := eq_true bQ
     have dr := dT bQ
     clear bQ
     by_cases bR : ((s.length : Int) : Int).toNat ≤ 35184372088832; rotate_left
     ·rw [if_neg bR] at H
      exact absurd H (by simp)
     rw [if_pos bR] at H
     have dt := eq_true bR
     have du := dT bR
     clear bR
     obtain ⟨cW, ch⟩ : ∃ y_ : List Int, y_ = (List.replicate ((s.length : Int) : Int).toNat 0) := ⟨_, rfl⟩
     rw [← ch] at H
     have bB := mA ch
     clear ch
     have H' := mA H
     clear H
     try go_wp2
     replace m := mA (zA m.out)
     replace a := mA (Zab a.out)
     replace HB := mA (Za3 HB.out)
     obtain ⟨bj, ak, ec⟩ := zP m.out
     (first | subst ec | (injection ec with cJ ed cK; have ee := cJ.symm; have ef := cK.symm; clear cJ ed cK; subst ee; subst ef))
     refine start_ (n := 6) (S := fun w' => True) (ds := []) #[false, false, false, false, false, false] (by kernel_rfl) rfl rfl trivial (fun hHeld => ?_)
     generalize wr.drew = w30 at m a HB hHeld ⊢
     refine Zav (i := 1) (N := some 46) (by kernel_rfl) ?_
     refine Zav (i := 2) (N := some 47) (by kernel_rfl) ?_
     refine join_ (σ := Nat × Value) 1 #[true, true, true, true, true, false] (fun s_ => [(45, .map (some s_.1)), (48, s_.2), (8, .map (some s_.1))]) (fun s_ w' => (Kd.R (Kd.int .i64) 2 w' w.heap.size (fun k_ => some k_ ≠ (.slice bj s.length ak : Value).ownBlock) s_.2 cW) ∧ (Kd.R (Kd.int .i64) 2 w' w.heap.size (fun k_ => some k_ ≠ (s_.2 : Value).ownBlock) (.slice bj s.length ak) s) ∧ (w'.heap[z]? = some (.cells #[.int .i64 I, .int .i64 J, .slice Y E.length W, .slice aa u.length X] 63 (0, 0))) ∧ (w'.heap[s_.1]? = some (mobj Value.string (Value.int .i64) ([] : List (ByteArray × Int)))) ∧ (w.heap.size ≤ s_.1) ∧ (w.heap.size ≤ s_.1) ∧ (z ≠ s_.1) ∧ (s_.1 ≠ z) ∧ (Below w.heap.size w w')) ?_ ?_
     rotate_left
     ·intro hCont
      refine two_ (i := 0) (j := 3) (Ni := some 45) (Nj := some 48) #[true, true, true, false, false, false] #[false, true, true, true, false, false] rfl rfl rfl rfl (by kernel_rfl) (by decide) (by decide) (fun K hK => ?_) (fun K hK => ?_)
      ·skip
       refine mapS_step Value.string (Value.int .i64) (by rfl) ?_
       intro G hg gy hbox hb
       replace m := mA (zM (rP m.out) hb)
       have q := mA (hbox)
       have bC := geW (w := w) hg
       have aY := geW (w := w) hg
       replace HB := mA (Zaf (bW) hb)
       have ab := mA (neB hg a)
       have ac := mA (neC hg a)
       replace a := mA (blkB a.out hb)
       clear hb hbox hg
       refine hK.out _ _ trivial (fun hHeld => ?_)
       clear hK K
       refine putS 45 ?_
       refine Zav (i := 4) (N := some 8) (by kernel_rfl) ?_
       refine one_ (i := 3) (N := some 48) #[true, true, true, true, true, false] rfl rfl (by kernel_rfl) (by decide) (fun K hK => ?_)
       refine xV (Kd.int .i64) _ 2 (by rfl) (N := 48) rfl 33 _ _ rfl (s.length : Int) rfl rfl Try.underlying33 (.int .i64 0) 8 info2 rfl (by decide) (by omega) 0 (ok := fun _ => True) (okp := fun _ => True) rfl (fun _ hk => hk) trivial (ofD) (Nat.le_trans (Nat.mul_le_mul_right _ (ofD : (s.length : Int).toNat ≤ 35184372088832)) (by omega)) (Below.refl _ _) (Nat.le_refl _) ?_
       intro ao hv bk hb hg_ hnew_
       clear hg_ hnew_
       (first | rw [← bB.out] at bk | (simp only [Int.reduceToNat] at bk; rw [← bB.out] at bk))
       have ar := mA (zV (yA bk (zN (rP m.out))) (Zan (bW)))
       replace m := mA (zZ (rP m.out) (zT bk) hb)
       replace a := mA (blkB a.out hb)
       replace q := mA (blkB q.out hb)
       replace HB := mA (Zaf (bW) hb)
       clear hb bk
       refine hK.out _ _ trivial (fun hHeld => ?_)
       clear hK K
       refine putS 48 ?_
       exact norm_ (by simp only [putAll, Act.put, List.setIfInBounds_toArray, List.set_cons_zero, List.set_cons_succ]) (hCont (G, ao) _ ⟨(by (with_reducible repeat (first | apply zD | apply zE | apply zA)); exact zC ar.out (fun _ hk => hk.2)), (by (with_reducible repeat (first | apply zD | apply zE | apply zA)); exact zC m.out (fun _ hk => hk.2)), (bP a.out), (bP q.out), bC.out, aY.out, ab.out, ac.out, (bW)⟩)
      skip
      refine xV (Kd.int .i64) _ 2 (by rfl) (N := 48) rfl 33 _ _ rfl (s.length : Int) rfl rfl Try.underlying33 (.int .i64 0) 8 info2 rfl (by decide) (by omega) 0 (ok := fun _ => True) (okp := fun _ => True) rfl (fun _ hk => hk) trivial (ofD) (Nat.le_trans (Nat.mul_le_mul_right _ (ofD : (s.length : Int).toNat ≤ 35184372088832)) (by omega)) (Below.refl _ _) (Nat.le_refl _) ?_
      intro ao gy bl hb hg_ hnew_
      clear hg_ hnew_
      (first | rw [← bB.out] at bl | (simp only [Int.reduceToNat] at bl; rw [← bB.out] at bl))
      have ar := mA (zV (yA bl (zN (rP m.out))) (Zan (bW)))
      replace m := mA (zZ (rP m.out) (zT bl) hb)
      replace a := mA (blkB a.out hb)
      replace HB := mA (Zaf (bW) hb)
      clear hb bl
      refine hK.out _ _ trivial (fun hHeld => ?_)
      clear hK K
      refine putS 48 ?_
      refine one_ (i := 0) (N := some 45) #[true, true, true, true, false, false] rfl rfl (by kernel_rfl) (by decide) (fun K hK => ?_)
      refine mapS_step Value.string (Value.int .i64) (by rfl) ?_
      intro G hg hx hbox hb
      replace m := mA (zM (rP m.out) hb)
      replace ar := mA (zM (rP ar.out) hb)
      have q := mA (hbox)
      have bC := geW (w := w) hg
      have aY := geW (w := w) hg
      replace HB := mA (Zaf (bW) hb)
      have ab := mA (neB hg a)
      have ac := mA (neC hg a)
      replace a := mA (blkB a.out hb)
      clear hb hbox hg
      refine hK.out _ _ trivial (fun hHeld => ?_)
      clear hK K
      refine putS 45 ?_
      refine Zav (i := 4) (N := some 8) (by kernel_rfl) ?_
      exact norm_ (by simp only [putAll, Act.put, List.setIfInBounds_toArray, List.set_cons_zero, List.set_cons_succ]) (hCont (G, ao) _ ⟨(by (with_reducible repeat (first | apply zD | apply zE | apply zA)); exact zC ar.out (fun _ hk => hk.2)), (by (with_reducible repeat (first | apply zD | apply zE | apply zA)); exact zC m.out (fun _ hk => hk.2)), (bP a.out), (bP q.out), bC.out, aY.out, ab.out, ac.out, (bW)⟩)
     rintro ⟨G, ao⟩ w35 ⟨fp, fq, fr, fs, ft, fu, fv, fw, fx⟩
     have fy : Zad (Kd.R (Kd.int .i64) 2 w35 w.heap.size (fun k_ => some k_ ≠ (.slice bj s.length ak : Value).ownBlock) ao cW) := ⟨fp⟩
     have fz : Zad (Kd.R (Kd.int .i64) 2 w35 w.heap.size (fun k_ => some k_ ≠ (ao : Value).ownBlock) (.slice bj s.length ak) s) := ⟨fq⟩
     have fA : Zad (w35.heap[z]? = some (.cells #[.int .i64 I, .int .i64 J, .slice Y E.length W, .slice aa u.length X] 63 (0, 0))) := ⟨fr⟩
     have fB : Zad (w35.heap[G]? = some (mobj Value.string (Value.int .i64) ([] : List (ByteArray × Int)))) := ⟨fs⟩
     have fC : Zad (w.heap.size ≤ G) := ⟨ft⟩
     have fD : Zad (w.heap.size ≤ G) := ⟨fu⟩
     have fE : Zad (z ≠ G) := ⟨fv⟩
     have fF : Zad (G ≠ z) := ⟨fw⟩
     have fG : Zad (Below w.heap.size w w35) := ⟨fx⟩
     clear m a HB fp fq fr fs ft fu fv fw fx; have ar := fy; have m := fz; have a := fA; have q := fB; have bC := fC; have aY := fD; have ab := fE; have ac := fF; have HB := fG; clear fy fz fA fB fC fD fE fF fG
     have hHeld := trivial
     refine norm_ (a' := ?_) ?_ ?_
     rotate_left
     ·simp only [putAll, Act.put, List.setIfInBounds_toArray, List.set_cons_zero, List.set_cons_succ]
      rfl
     refine Zav (i := 5) (N := some 9) (by kernel_rfl) ?_
     refine done_ (by kernel_rfl) ?_
     try go_wp2
     go_loopg [51] k2 (fun kq v51 w' => ∃ (O : List Int) (c : Int) (d : List (ByteArray × Int)), v51 = .int .i64 c ∧ Zad (Zal.l2 kq s an O (s.length : Int) c I J E u d = some r) ∧ Zad (kq ≤ k2) ∧ Zad (Kd.R (Kd.int .i64) 2 w' w.heap.size (fun k_ => some k_ ≠ (ao : Value).ownBlock) (.slice bj s.length ak) s) ∧ Zad (Kd.R (Kd.int .i64) 2 w' w.heap.size (fun k_ => some k_ ≠ ((.slice bj s.length ak) : Value).ownBlock) ao O) ∧ Zad (w'.heap[z]? = some (.cells #[.int .i64 I, .int .i64 J, (.slice Y E.length W), (.slice aa u.length X)] 63 (0, 0))) ∧ Zad (w'.heap[G]? = some (mobj Value.string (Value.int .i64) d)) ∧ Zad (Below w.heap.size w w'))
     case atStart => exact ⟨(cW), (0), (([] : List (ByteArray × Int))), (eW), H', ⟨Nat.le_refl _⟩, ⟨by (try simp only [l]); exact rP m.out⟩, ⟨by (try simp only [l]); exact rP ar.out⟩, ⟨by (try simp only [l]); exact bP a.out⟩, ⟨by (try simp only [l]); exact bP q.out⟩, ⟨bW⟩⟩
     case round =>
      clear H'
      try clear c1
      try clear p1
      try clear q1
      try clear hx1
      try clear c2
      try clear p2
      try clear q2
      try clear hx2
      try clear hf2
      try clear c3
      try clear b5
      try clear b6
      try clear p3
      try clear q3
      try clear hx3
      try clear c4
      try clear b7
      try clear b8
      try clear p6
      try clear c9
      try clear c10
      try clear az
      try clear bF
      try clear cc
      try clear bG
      try clear bv
      try clear q13
      try clear bH
      try clear bL
      try clear bx
      try clear q16
      try clear bM
      try clear bN
      try clear bA
      try clear aW
      try clear aX
      try clear hx19
      try clear hf19
      try clear bI
      try clear bw
      try clear aU
      try clear aV
      try clear hx25
      try clear hf25
      try clear bQ
      try clear dq
      try clear dr
      try clear bR
      try clear dt
      try clear du
      try clear p34
      try clear q34
      try clear hx34
      try clear a9
      try clear ba
      try clear bb
      try clear bd
      try clear a1
      try clear a2
      try clear a3
      try clear a4
      try clear aH
      try clear aI
      try clear aJ
      try clear aK
      try clear bf
      try clear bg
      try clear bh
      try clear bi
      try clear a5
      try clear a6
      try clear a7
      try clear a8
      try clear aM
      try clear aN
      try clear aP
      try clear aQ
      try clear bO
      try clear bK
      try clear B
      try clear T
      try clear p1
      try clear aW
      try clear p2
      try clear aU
      try clear p3
      try clear ad
      try clear al
      try clear p6
      try clear q1
      try clear q13
      try clear q16
      try clear aX
      try clear q2
      try clear aV
      try clear q3
      try clear ae
      try clear am
      obtain ⟨O, c, d, rfl, HA, aw, m, y, a, q, HB⟩ := hrel
      cases gk with
      | zero => exact absurd HA.out (by simp [Zal.l2])
      | succ k3 =>
       have H := HA.out
       clear HA
       simp only [Zal.l2] at H
       by_cases bS : c < (s.length : Int); rotate_left
       ·rw [if_neg bS] at H
        have bD := dF bS
        (try (have ci := bD; simp only [l] at ci))
        clear bS
        by_cases bT : (d.length : Int) = an
        ·rw [if_pos bT] at H
         have cj : ((d.length : Int) == an) = true := beq_iff_eq.mpr bT
         (try (have ck := cj; simp only [l] at ck))
         have cm : ((d.length : Int) != an) = false := bne_eq_false_iff_eq.mpr bT
         (try (have cn := cm; simp only [l] at cn))
         clear bT
         obtain rfl := oI H
         go_wp2_with (first | ((with_reducible refine Zbp (b := .len) (xs := #[.tmp 124]) rfl ?_); refine mlenS (eK := Value.string) (eV := (Value.int .i64)) (g := G) (L := d) (bP q.out) Try.underlying122 ?_))
         go_ret
         exact ⟨_, eW, by (with_reducible repeat (first | apply zD | apply zE | apply zA)); exact zC y.out (fun _ hk => trivial), bW⟩
        rw [if_neg bT] at H
        have cj : ((d.length : Int) == an) = false := beq_eq_false_iff_ne.mpr bT
        (try (have ck := cj; simp only [l] at ck))
        have cm : ((d.length : Int) != an) = true := bne_iff_ne.mpr bT
        (try (have cn := cm; simp only [l] at cn))
        have H' := mA H
        clear H
        go_wp2_with (first | ((with_reducible refine Zbp (b := .len) (xs := #[.tmp 124]) rfl ?_); refine mlenS (eK := Value.string) (eV := (Value.int .i64)) (g := G) (L := d) (bP q.out) Try.underlying122 ?_) | ((with_reducible refine Zbp (b := .len) (xs := #[.tmp 129]) rfl ?_); refine mlenS (eK := Value.string) (eV := (Value.int .i64)) (g := G) (L := d) (bP q.out) Try.underlying122 ?_))
        go_roundg k3
        case measure => have := ag.out; have := av.out; have := aw.out; omega
        case rel => exact ⟨(O), ((d.length : Int)), (eW), H', ⟨by have := ag.out; have := av.out; have := aw.out; omega⟩, ⟨by (try simp only [l]); (with_reducible repeat (first | apply zD | apply zE | apply zA)); exact zC y.out (fun _ hk => trivial)⟩, ⟨by (try simp only [l]); exact bP a.out⟩, ⟨bW⟩⟩
       rw [if_pos bS] at H
       have bD := dT bS
       (try (have ci := bD; simp only [l] at ci))
       clear bS
       by_cases cL : 0 ≤ c; rotate_left
       ·rw [if_neg cL] at H
        exact absurd H (by simp)
       rw [if_pos cL] at H
       have eO := dT cL
       clear cL
       by_cases cM : c < (s.length : Int); rotate_left
       ·rw [if_neg cM] at H
        exact absurd H (by simp)
       rw [if_pos cM] at H
       have dv := dT cM
       (try (have eP := dv; simp only [l] at eP))
       clear cM
       by_cases bU : (rd s c) < 0
       ·rw [if_pos bU] at H
        have dw := dT bU
        clear bU
        by_cases cN : c < (O.length : Int); rotate_left
        ·rw [if_neg cN] at H
         exact absurd H (by simp)
        rw [if_pos cN] at H
        have dx := dT cN
        (try (have eQ := dx; simp only [l] at eQ))
        clear cN
        obtain ⟨eg, co⟩ : ∃ y_ : List Int, y_ = (O.set (c : Int).toNat (-1)) := ⟨_, rfl⟩
        rw [← co] at H
        have eR := mA co
        clear co
        have H' := mA H
        clear H
        have ax : 0 ≤ (c : Int) := ofD
        have ay : c < (s.length : Int) := ofD
        obtain ⟨af, cX, b0⟩ := zO (zK m.out).2.2 c ax ay
        cases cX
        replace ax := eq_true ax
        replace ay := eq_true ay
        have cO : 0 ≤ (c : Int) := ofD
        have cQ : (c : Int) < ((O.length : Int) : Int) := ofD
        obtain ⟨bV, cY, eh, ei, fO, g9, ej⟩ := yM y.out (by omega)
        (first | cases eh | (injection eh with ea_ en_ ec_; (first | subst ea_ | (injection ea_ with ea_; subst ea_)); subst ec_; clear en_))
        have fP := mA ei
        have ha := mA ej
        clear ei fO ej
        obtain ⟨ek, gz⟩ := yF 0 y.out (c : Int) cO cQ
        replace cO := eq_true cO
        replace cQ := eq_true cQ
        have cZ := yG y.out (c : Int) (-1)
        go_wp2_with (first | ((with_reducible refine Zbl (t := 2) (p := 61) rfl ?_); refine Zc2 (t := 2) (p := 61) (w1 := (wr.setCell ⟨bV, (c : Int).toNat, none⟩ (.int .i64 (-1)))) ?_; intro el hw; have hg : wr.grownBy el (some bV) := (by rw [hw]; exact cZ.2); have hp_ : Kd.R (Kd.int .i64) 2 el w.heap.size (fun k_ => some k_ ≠ (.slice (some af) s.length ak : Value).ownBlock) (.slice (some ⟨bV, 0, none⟩) O.length cY) eg := (by rw [hw, eR.out]; exact cZ.1); clear cZ; replace m := mA (zU (v := (.slice (some ⟨bV, 0, none⟩) O.length cY)) (v1 := (.slice (some ⟨bV, 0, none⟩) O.length cY)) (ok := (fun _ => True)) (by (with_reducible repeat (first | apply zD | apply zE | apply zA)); exact zC m.out (fun _ hk => ⟨trivial, hk⟩)) hg (.inl rfl)); replace a := mA (Zaq (g := z) (o := .cells #[.int .i64 I, .int .i64 J, .slice Y E.length W, .slice aa u.length X] 63 (0, 0)) (bP a.out) hg (zQ y.out a.out (by decide))); replace q := mA (Zaq (g := G) (o := mobj Value.string (Value.int .i64) d) (bP q.out) hg (Kd.R_nem y.out q.out)); replace y := mA (hp_); replace HB := mA ((by rw [hw]; exact Za7 (HB.out) fP.out : Below w.heap.size w el)); clear hg hw hp_))
        go_roundg k3
        case measure => have := ag.out; have := av.out; have := aw.out; omega
        case rel => exact ⟨(eg), (wrap64 (c + 1)), (d), (eW), H', ⟨by have := ag.out; have := av.out; have := aw.out; omega⟩, ⟨by (try simp only [l]); (with_reducible repeat (first | apply zD | apply zE | apply zA)); exact zC m.out (fun _ hk => hk.2)⟩, ⟨by (try simp only [l]); exact rP y.out⟩, ⟨by (try simp only [l]); exact bP a.out⟩, ⟨by (try simp only [l]); exact bP q.out⟩, ⟨bW⟩⟩
       rw [if_neg bU] at H
       have dw := dF bU
       clear bU
       obtain ⟨em, cp⟩ : ∃ y_ : List Int, y_ = (([(rd s c) / 256, Go.bits .and .i64 (rd s c) 255] : List Int)) := ⟨_, rfl⟩
       rw [← cp] at H
       have dy := mA cp
       clear cp
       replace H := bE H
       obtain ⟨cq, en, H⟩ := H
       have gA := mA en
       clear en
       by_cases b1 : cq.size ≤ 140737488355328; rotate_left
       ·rw [if_neg b1] at H
        exact absurd H (by simp)
       rw [if_pos b1] at H
       have eS := eq_true b1
       have eT := dT b1
       clear b1
       obtain ⟨fQ, cr⟩ : ∃ y_ : List Int, y_ = (bytesOf cq) := ⟨_, rfl⟩
       rw [← cr] at H
       have dz := mA cr
       clear cr
       have H' := mA H
       clear H
       have ax : 0 ≤ (c : Int) := ofD
       have ay : c < (s.length : Int) := ofD
       obtain ⟨af, cX, b0⟩ := zO (zK m.out).2.2 c ax ay
       cases cX
       replace ax := eq_true ax
       replace ay := eq_true ay
       try go_wp2
       replace m := mA (zA m.out)
       replace y := mA (zA y.out)
       replace a := mA (Zab a.out)
       replace q := mA (Zab q.out)
       replace HB := mA (Za3 HB.out)
       have ct : 0 ≤ (c : Int) := ofD
       have cu : c < (s.length : Int) := ofD
       obtain ⟨eU, fR, bm⟩ := zO (zK m.out).2.2 c ct cu
       obtain rfl : af = eU := (by injection fR)
       replace ct := eq_true ct
       replace cu := eq_true cu
       have cv : 0 ≤ (c : Int) := ofD
       have cw : c < (s.length : Int) := ofD
       obtain ⟨eX, fS, bn⟩ := zO (zK m.out).2.2 c cv cw
       obtain rfl : af = eX := (by injection fS)
       replace cv := eq_true cv
       replace cw := eq_true cw
       refine start_ (n := 14) (S := fun w' => w'.cell? (af.add (c).toNat) = some (.int .i64 (rd s c)) ∧ w'.cell? (af.add (c).toNat) = some (.int .i64 (rd s c))) (ds := []) #[false, false, false, false, false, false, false, false, false, false, false, false, false, false] (by kernel_rfl) rfl rfl ⟨bm, bn⟩ (fun hHeld => ?_); refine Zc0 Zal.tab17 Zal.bits17 (fun HT_ HW_ => ?_)
       generalize wr.drew = w46 at m y a q HB bm bn hHeld ⊢
       refine Zav (i := 0) (N := some 62) (Zaw HT_.out (by kernel_rfl)) ?_
       refine Zav (i := 1) (N := some 63) (Zaw HT_.out (by kernel_rfl)) ?_
       refine Zav (i := 2) (N := some 64) (Zaw HT_.out (by kernel_rfl)) ?_
       refine Zav (i := 5) (N := some 67) (Zaw HT_.out (by kernel_rfl)) ?_
       refine Zav (i := 6) (N := some 68) (Zaw HT_.out (by kernel_rfl)) ?_
       refine Zav (i := 7) (N := some 69) (Zaw HT_.out (by kernel_rfl)) ?_
       refine Zbt (i := 3) (N := some 65) (Zbb HT_.out HW_.out (by kernel_rfl)) hHeld ?_
       refine Zav (i := 4) (N := some 66) (Zaw HT_.out (by kernel_rfl)) ?_
       refine Zbt (i := 8) (N := some 70) (Zbb HT_.out HW_.out (by kernel_rfl)) hHeld ?_
       refine Zav (i := 9) (N := some 71) (Zaw HT_.out (by kernel_rfl)) ?_
       refine one_ (i := 10) (N := some 72) #[true, true, true, true, true, true, true, true, true, true, true, false, false, false] rfl rfl (Zb4 HT_.out (by kernel_rfl)) (by decide) (fun K hK => ?_)
       refine xG (Kd.int .i64) _ 2 ?hg (N := 72) ?hd (xs := ([(rd s c) / 256, Go.bits .and .i64 (rd s c) 255] : List Int)) (inner := [.int .i64 ((rd s c) / 256), .int .i64 (Go.bits .and .i64 (rd s c) 255)]) (ok := fun _ => True) (okp := fun _ => True) ?hr ?hp (fun _ hk => hk) trivial (Below.refl _ _) (Nat.le_refl _) (by simp) ?_; (case hd => rfl); (case hg => rfl); (case hr => first | (go_simp; done) | (go_simp; rfl)); (case hp => exact (Reps.one (show Kd.M (Kd.int .i64) _ _ _ ((rd s c) / 256) [.int .i64 ((rd s c) / 256)] from rfl) (Reps.one (show Kd.M (Kd.int .i64) _ _ _ (Go.bits .and .i64 (rd s c) 255) [.int .i64 (Go.bits .and .i64 (rd s c) 255)] from rfl) (Reps.none _ _))))
       intro hc hy aA hb hg_ hnew_
       have bX := (hb.cell (World.block_lt_of_cell? _ _ (hHeld.1))).trans (hHeld.1)
       have bY := (hb.cell (World.block_lt_of_cell? _ _ (hHeld.2))).trans (hHeld.2)
       clear hg_ hnew_
       (first | rw [← dy.out] at aA | (simp only [Int.reduceToNat] at aA; rw [← dy.out] at aA))
       have au := mA (zV (yA (yA aA (zN (rP m.out))) (zN (rP y.out))) (Zan (bW)))
       replace m := mA (zZ (rP m.out) (zT aA) hb)
       replace y := mA (zZ (rP y.out) (zT aA) hb)
       replace a := mA (blkB a.out hb)
       replace q := mA (blkB q.out hb)
       replace HB := mA (Zaf (bW) hb)
       clear hb aA
       obtain ⟨fT, fU, eo⟩ := zP au.out
       (first | subst eo | (injection eo with cJ ed cK; have ee := cJ.symm; have ef := cK.symm; clear cJ ed cK; subst ee; subst ef))
       refine hK.out _ _ ⟨bX, bY⟩ (fun hHeld => ?_)
       clear hK K
       refine putS 72 ?_
       refine one_ (i := 11) (N := some 73) #[true, true, true, true, true, true, true, true, true, true, true, true, false, false] rfl rfl (Zb4 HT_.out (by kernel_rfl)) (by decide) (fun K hK => ?_)
       refine goes_ Try.func109 (by kernel_rfl) rfl #[.slice fT em.length fU] (by rfl) rfl rfl (by (try simp only [List.map_toArray, List.map_cons, List.map_nil]); first | done | rfl | (simp only [List.length_drop, List.length_take]; rfl)) ?_
       with_reducible refine (Zb0.calls k3 _ _ em cq _ ?side1 ?side2 gA.out).mono ?_
       (case side1 => exact cP ((zK au.out).2.2))
       (case side2 => exact (zK au.out).2.1)
       rintro e hz ⟨rfl, hb⟩
       have bX := (hb.cell (World.block_lt_of_cell? _ _ (hHeld.1))).trans (hHeld.1)
       have bY := (hb.cell (World.block_lt_of_cell? _ _ (hHeld.2))).trans (hHeld.2)
       refine ⟨_, rfl, ?_⟩
       replace m := mA (zM (rP m.out) hb)
       replace y := mA (zM (rP y.out) hb)
       replace au := mA (zM (rP au.out) hb)
       replace a := mA (blkB a.out hb)
       replace q := mA (blkB q.out hb)
       replace HB := mA (Zaf (bW) hb)
       (try clear hb)
       (try clear hb2)
       (try clear hk)
       (try clear hi)
       refine hK.out _ _ ⟨bX, bY⟩ (fun hHeld => ?_)
       clear hK K
       refine putS 73 ?_
       refine one_ (i := 12) (N := some 74) #[true, true, true, true, true, true, true, true, true, true, true, true, true, false] rfl rfl (Zb4 HT_.out (by kernel_rfl)) (by decide) (fun K hK => ?_)
       refine Kd.Z_conv_step 5 (N := 74) cq Try.underlying43 Try.underlying9 Try.underlying5 (ofD) ?_
       intro he dA bZ hb hg_ hnew_
       have bX := (hb.cell (World.block_lt_of_cell? _ _ (hHeld.1))).trans (hHeld.1)
       have bY := (hb.cell (World.block_lt_of_cell? _ _ (hHeld.2))).trans (hHeld.2)
       clear hg_ hnew_
       (first | rw [← dz.out] at bZ | (simp only [Int.reduceToNat] at bZ; rw [← dz.out] at bZ))
       replace m := mA (zM (rP m.out) hb)
       replace y := mA (zM (rP y.out) hb)
       replace au := mA (zM (rP au.out) hb)
       have eY := mA (Kd.Z_lower bZ (Zan (bW)))
       replace a := mA (blkB a.out hb)
       replace q := mA (blkB q.out hb)
       replace HB := mA (Zaf (bW) hb)
       clear hb bZ
       refine hK.out _ _ ⟨bX, bY⟩ (fun hHeld => ?_)
       clear hK K
       refine putS 74 ?_
       refine Zav (i := 13) (N := some 11) (Zaw HT_.out (by kernel_rfl)) ?_
       refine done_ (done_of HT_.out (by kernel_rfl)) ?_
       have gJ := ab.out
       have gK := ac.out
       have dQ : dA.cell? ⟨z, 0, none⟩ = some (.int .i64 I) := bc a 0
       have dR : dA.cell? ⟨z, 1, none⟩ = some (.int .i64 J) := bc a 1
       have dS : dA.cell? ⟨z, 2, none⟩ = some (.slice Y E.length W) := bc a 2
       have dU : dA.cell? ⟨z, 3, none⟩ = some (.slice aa u.length X) := bc a 3
       have dV := Zae a.out 0
       have dW := Zae a.out 1
       have dX := Zae a.out 2
       have dY := Zae a.out 3
       try go_wp2
       go_loopg [11, 77] k3 (fun kq v11 v77 w' => ∃ (U : List Int) (A : Int), v77 = .int .i64 A ∧ Zad (Zal.l3 kq s an O c U (s.length : Int) c I A I J E u d = some r) ∧ Zad (kq ≤ k3) ∧ Zad (Kd.R (Kd.int .i64) 2 w' w.heap.size (fun k_ => some k_ ≠ (ao : Value).ownBlock) (.slice (some af) s.length ak) s) ∧ Zad (Kd.R (Kd.int .i64) 2 w' w.heap.size (fun k_ => some k_ ≠ ((.slice (some af) s.length ak) : Value).ownBlock) ao O) ∧ Zad (Kd.Z (Kd.int .u8) 5 w' w.heap.size (fun _ => True) v11 U) ∧ Zad (w'.heap[z]? = some (.cells #[.int .i64 I, .int .i64 J, (.slice Y E.length W), (.slice aa u.length X)] 63 (0, 0))) ∧ Zad (w'.heap[G]? = some (mobj Value.string (Value.int .i64) d)) ∧ Zad (Below w.heap.size w w'))
       case atStart => exact ⟨(fQ), (0), (eW), H', ⟨Nat.le_refl _⟩, ⟨by (try simp only [l]); (with_reducible repeat (first | apply zD | apply zE | apply zA)); exact zC m.out (fun _ hk => hk.1)⟩, ⟨by (try simp only [l]); (with_reducible repeat (first | apply zD | apply zE | apply zA)); exact zC y.out (fun _ hk => hk.1)⟩, ⟨by (try simp only [l]); (with_reducible repeat (first | apply Kd.Z_alloc | apply Kd.Z_drewN | apply Kd.Z_drew)); exact eY.out⟩, ⟨by (try simp only [l]); exact bP a.out⟩, ⟨by (try simp only [l]); exact bP q.out⟩, ⟨bW⟩⟩
       case round =>
        clear H'
        try clear c1
        try clear p1
        try clear q1
        try clear hx1
        try clear c2
        try clear p2
        try clear q2
        try clear hx2
        try clear hf2
        try clear c3
        try clear b5
        try clear b6
        try clear p3
        try clear q3
        try clear hx3
        try clear c4
        try clear b7
        try clear b8
        try clear p4
        try clear q4
        try clear hx4
        try clear hf4
        try clear c5
        try clear p6
        try clear c9
        try clear c10
        try clear az
        try clear bF
        try clear cc
        try clear bG
        try clear bv
        try clear q13
        try clear bH
        try clear bL
        try clear bx
        try clear q16
        try clear bM
        try clear bN
        try clear bA
        try clear aW
        try clear aX
        try clear hx19
        try clear hf19
        try clear bI
        try clear bw
        try clear aU
        try clear aV
        try clear hx25
        try clear hf25
        try clear bQ
        try clear dq
        try clear dr
        try clear bR
        try clear dt
        try clear du
        try clear p34
        try clear q34
        try clear hx34
        try clear p35
        try clear q35
        try clear hx35
        try clear bS
        try clear bD
        try clear cL
        try clear eO
        try clear cM
        try clear dv
        try clear bU
        try clear dw
        try clear cN
        try clear dx
        try clear cO
        try clear cQ
        try clear hx41
        try clear hf41
        try clear b1
        try clear eS
        try clear eT
        try clear c53
        try clear a9
        try clear ba
        try clear bb
        try clear bd
        try clear a1
        try clear a2
        try clear a3
        try clear a4
        try clear dQ
        try clear dR
        try clear dS
        try clear dU
        try clear aH
        try clear aI
        try clear aJ
        try clear aK
        try clear bf
        try clear bg
        try clear bh
        try clear bi
        try clear a5
        try clear a6
        try clear a7
        try clear a8
        try clear dV
        try clear dW
        try clear dX
        try clear dY
        try clear aM
        try clear aN
        try clear aP
        try clear aQ
        try clear bO
        try clear bK
        try clear B
        try clear T
        try clear b0
        try clear bm
        try clear bn
        try clear ek
        try clear p1
        try clear aW
        try clear p2
        try clear aU
        try clear p3
        try clear p34
        try clear ad
        try clear al
        try clear ax
        try clear ct
        try clear cv
        try clear cO
        try clear p6
        try clear q1
        try clear q13
        try clear q16
        try clear aX
        try clear q2
        try clear aV
        try clear q3
        try clear q34
        try clear ae
        try clear am
        try clear ay
        try clear cu
        try clear cw
        try clear cQ
        obtain ⟨U, A, rfl, HA, bu, m, y, D, a, q, HB⟩ := hrel
        cases gk with
        | zero => exact absurd HA.out (by simp [Zal.l3])
        | succ k4 =>
         have H := HA.out
         clear HA
         simp only [Zal.l3] at H
         by_cases b2 : A < I; rotate_left
         ·rw [if_neg b2] at H
          have eZ := dF b2
          clear b2
          by_cases b3 : (mhas d (strOfNums U) = true)
          ·rw [if_pos b3] at H
           have e0 : mhas d (strOfNums U) = true := b3
           clear b3
           by_cases dB : 0 ≤ c; rotate_left
           ·rw [if_neg dB] at H
            exact absurd H (by simp)
           rw [if_pos dB] at H
           have gL := dT dB
           clear dB
           by_cases dC : c < (O.length : Int); rotate_left
           ·rw [if_neg dC] at H
            exact absurd H (by simp)
           rw [if_pos dC] at H
           have e1 := dT dC
           (try (have e2 := e1; simp only [l] at e2))
           clear dC
           obtain ⟨ep, cx⟩ : ∃ y_ : List Int, y_ = (O.set (c : Int).toNat (mget 0 d (strOfNums U))) := ⟨_, rfl⟩
           rw [← cx] at H
           have e3 := mA cx
           clear cx
           have H' := mA H
           clear H
           have gM := Kd.Z_string (P := Try.prog) Try.underlying43 Try.underlying5 Try.underlying9 D.out
           go_wp2_with (first | ((with_reducible refine Zap (N := 107) rfl ?_); refine mgetS (eK := Value.string) (eV := (Value.int .i64)) (g := G) (L := d) 0 (strOfNums U) mkey_str (bP q.out) Try.underlying122 Try.underlying9 (Try.zeroValue2 _) ?_; have er : 0 ≤ (c : Int) := ofD; have es : (c : Int) < ((O.length : Int) : Int) := ofD; obtain ⟨bo, cy, et, eu, fV, hf, ev⟩ := yM y.out (by omega); (first | cases et | (injection et with ea_ en_ ec_; (first | subst ea_ | (injection ea_ with ea_; subst ea_)); subst ec_; clear en_)); have fW := mA eu; have hh := mA ev; clear eu fV ev; obtain ⟨gB, gC⟩ := yF 0 y.out (c : Int) er es; replace er := eq_true er; replace es := eq_true es; obtain ⟨gN, gO⟩ := yF 0 y.out (c : Int) (ofD) (ofD); have c0 := yG y.out (c : Int) (mget 0 d (strOfNums U))) | ((with_reducible refine Zbl (t := 2) (p := 121) rfl ?_); refine Zdk (t := 2) (p := 121) (v := ?vo_w83) (w1 := (wr.setCell ⟨bo, (c : Int).toNat, none⟩ (.int .i64 (mget 0 d (strOfNums U))))) ?hg ?ho ?hn ?hr ?_; (case ho => rfl); (case hg => rfl); (case hn => rfl); (case hr => first | (go_simp; done) | (go_simp; rfl)); intro ew hw; have hg : wr.grownBy ew (some bo) := (by rw [hw]; exact c0.2); have hp_ : Kd.R (Kd.int .i64) 2 ew w.heap.size (fun k_ => some k_ ≠ (.slice (some af) s.length ak : Value).ownBlock) (.slice (some ⟨bo, 0, none⟩) O.length cy) ep := (by rw [hw, e3.out]; exact c0.1); clear c0; replace m := mA (zU (v := (.slice (some ⟨bo, 0, none⟩) O.length cy)) (v1 := (.slice (some ⟨bo, 0, none⟩) O.length cy)) (ok := (fun _ => True)) (by (with_reducible repeat (first | apply zD | apply zE | apply zA)); exact zC m.out (fun _ hk => ⟨trivial, hk⟩)) hg (.inl rfl)); replace D := mA (Kd.Z_over' (v := (.slice (some ⟨bo, 0, none⟩) O.length cy)) (by (with_reducible repeat (first | apply Kd.Z_alloc | apply Kd.Z_drewN | apply Kd.Z_drew)); exact D.out) (yV y.out) (by decide) hg); replace a := mA (Zaq (g := z) (o := .cells #[.int .i64 I, .int .i64 J, .slice Y E.length W, .slice aa u.length X] 63 (0, 0)) (bP a.out) hg (zQ y.out a.out (by decide))); replace q := mA (Zaq (g := G) (o := mobj Value.string (Value.int .i64) d) (bP q.out) hg (Kd.R_nem y.out q.out)); replace y := mA (hp_); replace HB := mA ((by rw [hw]; exact Za7 (HB.out) fW.out : Below w.heap.size w ew)); clear hg hw hp_))
           go_roundg k4
           case measure => have := ag.out; have := av.out; have := aw.out; have := bu.out; omega
           case rel => exact ⟨(ep), (wrap64 (c + 1)), (d), (eW), H', ⟨by have := ag.out; have := av.out; have := aw.out; have := bu.out; omega⟩, ⟨by (try simp only [l]); (with_reducible repeat (first | apply zD | apply zE | apply zA)); exact zC m.out (fun _ hk => hk.2)⟩, ⟨by (try simp only [l]); exact rP y.out⟩, ⟨by (try simp only [l]); exact bP a.out⟩, ⟨by (try simp only [l]); exact bP q.out⟩, ⟨bW⟩⟩
          rw [if_neg b3] at H
          have e0 : mhas d (strOfNums U) = false := by simpa using b3
          clear b3
          by_cases dD : 0 ≤ c; rotate_left
          ·rw [if_neg dD] at H
           exact absurd H (by simp)
          rw [if_pos dD] at H
          have gP := dT dD
          clear dD
          by_cases dE : c < (O.length : Int); rotate_left
          ·rw [if_neg dE] at H
           exact absurd H (by simp)
          rw [if_pos dE] at H
          have e4 := dT dE
          (try (have e5 := e4; simp only [l] at e5))
          clear dE
          obtain ⟨ey, cz⟩ : ∃ y_ : List Int, y_ = (O.set (c : Int).toNat (d.length : Int)) := ⟨_, rfl⟩
          rw [← cz] at H
          have e6 := mA cz
          clear cz
          have H' := mA H
          clear H
          have gQ := Kd.Z_string (P := Try.prog) Try.underlying43 Try.underlying5 Try.underlying9 D.out
          go_wp2_with (first | ((with_reducible refine Zap (N := 107) rfl ?_); refine mgetS (eK := Value.string) (eV := (Value.int .i64)) (g := G) (L := d) 0 (strOfNums U) mkey_str (bP q.out) Try.underlying122 Try.underlying9 (Try.zeroValue2 _) ?_) | ((with_reducible refine Zbp (b := .len) (xs := #[.tmp 112]) rfl ?_); refine mlenS (eK := Value.string) (eV := (Value.int .i64)) (g := G) (L := d) (bP q.out) Try.underlying122 ?_; have gR := Kd.Z_string (P := Try.prog) Try.underlying43 Try.underlying5 Try.underlying9 D.out) | ((with_reducible refine gate_mset (t := 122) rfl ?_); refine msetS (eK := Value.string) (eV := (Value.int .i64)) (g := G) (L := d) (strOfNums U) (d.length : Int) mkey_str (bP q.out) Try.underlying122 Try.underlying9 ?_; intro fH hbk hg; replace m := mA (Kd.R_mset (rP m.out) (bP q.out) hg); replace y := mA (Kd.R_mset (rP y.out) (bP q.out) hg); replace D := mA (Kd.Z_mset (by (with_reducible repeat (first | apply Kd.Z_alloc | apply Kd.Z_drewN | apply Kd.Z_drew)); exact D.out) (bP q.out) hg); replace a := mA (Zaq (g := z) (o := .cells #[.int .i64 I, .int .i64 J, .slice Y E.length W, .slice aa u.length X] 63 (0, 0)) (bP a.out) hg (fun e_ => ab.out (Option.some.inj e_))); replace q := mA (hbk); replace HB := mA ((fun h_ => Below.grown h_ hg h_.size (fun k_ e_ => by injection e_ with e_; rw [← e_]; exact aY.out)) (bW)); clear hg hbk; have ez : 0 ≤ (c : Int) := ofD; have eA : (c : Int) < ((O.length : Int) : Int) := ofD; obtain ⟨bp, cA, eB, eC, fX, hj, eD⟩ := yM y.out (by omega); (first | cases eB | (injection eB with ea_ en_ ec_; (first | subst ea_ | (injection ea_ with ea_; subst ea_)); subst ec_; clear en_)); have fY := mA eC; have hl := mA eD; clear eC fX eD; obtain ⟨gD, gE⟩ := yF 0 y.out (c : Int) ez eA; replace ez := eq_true ez; replace eA := eq_true eA; obtain ⟨gS, gT⟩ := yF 0 y.out (c : Int) (ofD) (ofD); have da := yG y.out (c : Int) (d.length : Int)) | ((with_reducible refine Zbl (t := 2) (p := 121) rfl ?_); refine Zc2 (t := 2) (p := 121) (w1 := (fH.setCell ⟨bp, (c : Int).toNat, none⟩ (.int .i64 (d.length : Int)))) ?_; intro eE hw; have hg : fH.grownBy eE (some bp) := (by rw [hw]; exact da.2); have hp_ : Kd.R (Kd.int .i64) 2 eE w.heap.size (fun k_ => some k_ ≠ (.slice (some af) s.length ak : Value).ownBlock) (.slice (some ⟨bp, 0, none⟩) O.length cA) ey := (by rw [hw, e6.out]; exact da.1); clear da; replace m := mA (zU (v := (.slice (some ⟨bp, 0, none⟩) O.length cA)) (v1 := (.slice (some ⟨bp, 0, none⟩) O.length cA)) (ok := (fun _ => True)) (by (with_reducible repeat (first | apply zD | apply zE | apply zA)); exact zC m.out (fun _ hk => ⟨trivial, hk⟩)) hg (.inl rfl)); replace D := mA (Kd.Z_over' (v := (.slice (some ⟨bp, 0, none⟩) O.length cA)) (by (with_reducible repeat (first | apply Kd.Z_alloc | apply Kd.Z_drewN | apply Kd.Z_drew)); exact D.out) (yV y.out) (by decide) hg); replace a := mA (Zaq (g := z) (o := .cells #[.int .i64 I, .int .i64 J, .slice Y E.length W, .slice aa u.length X] 63 (0, 0)) (bP a.out) hg (zQ y.out a.out (by decide))); replace q := mA (Zaq (g := G) (o := mobj Value.string (Value.int .i64) (mset d (strOfNums U) (d.length : Int))) (bP q.out) hg (Kd.R_nem y.out q.out)); replace y := mA (hp_); replace HB := mA ((by rw [hw]; exact Za7 (HB.out) fY.out : Below w.heap.size w eE)); clear hg hw hp_))
          go_roundg k4
          case measure => have := ag.out; have := av.out; have := aw.out; have := bu.out; omega
          case rel => exact ⟨(ey), (wrap64 (c + 1)), (mset d (strOfNums U) (d.length : Int)), (eW), H', ⟨by have := ag.out; have := av.out; have := aw.out; have := bu.out; omega⟩, ⟨by (try simp only [l]); (with_reducible repeat (first | apply zD | apply zE | apply zA)); exact zC m.out (fun _ hk => hk.2)⟩, ⟨by (try simp only [l]); exact rP y.out⟩, ⟨by (try simp only [l]); exact bP a.out⟩, ⟨by (try simp only [l]); exact bP q.out⟩, ⟨bW⟩⟩
         rw [if_pos b2] at H
         have eZ := dT b2
         clear b2
         by_cases dG : 0 ≤ c; rotate_left
         ·rw [if_neg dG] at H
          exact absurd H (by simp)
         rw [if_pos dG] at H
         have gU := dT dG
         clear dG
         by_cases dH : c < (u.length : Int); rotate_left
         ·rw [if_neg dH] at H
          exact absurd H (by simp)
         rw [if_pos dH] at H
         have e7 := dT dH
         (try (have e8 := e7; simp only [l] at e8))
         clear dH
         by_cases dI : 0 ≤ A; rotate_left
         ·rw [if_neg dI] at H
          exact absurd H (by simp)
         rw [if_pos dI] at H
         have gV := dT dI
         clear dI
         by_cases dJ : A < ((Zah u c).length : Int); rotate_left
         ·rw [if_neg dJ] at H
          exact absurd H (by simp)
         rw [if_pos dJ] at H
         have e9 := dT dJ
         (try (have fa := e9; simp only [l] at fa))
         clear dJ
         by_cases b4 : (rd (Zah u c) A) ≥ 0; rotate_left
         ·rw [if_neg b4] at H
          have fb : decide (0 ≤ (rd (Zah u c) A)) = false := dF b4
          clear b4
          obtain ⟨cB, cC⟩ : ∃ y_ : List Int, y_ = (([((-1) / 256) % 256, ((-1)) % 256] : List Int)) := ⟨_, rfl⟩
          replace H := bsm cC H
          have dK := mA cC
          clear cC
          by_cases dL : U.length + cB.length < 140737488355328; rotate_left
          ·rw [if_neg dL] at H
           exact absurd H (by simp)
          rw [if_pos dL] at H
          have fc := mA dL
          clear dL
          obtain ⟨fZ, cD⟩ : ∃ y_ : List Int, y_ = (U ++ cB) := ⟨_, rfl⟩
          rw [← cD] at H
          have fd := mA cD
          clear cD
          have H' := mA H
          clear H
          have gW := ab.out
          have gX := ac.out
          have f8 : wr.cell? ⟨z, 0, none⟩ = some (.int .i64 I) := bc a 0
          have f9 : wr.cell? ⟨z, 1, none⟩ = some (.int .i64 J) := bc a 1
          have ga : wr.cell? ⟨z, 2, none⟩ = some (.slice Y E.length W) := bc a 2
          have gb : wr.cell? ⟨z, 3, none⟩ = some (.slice aa u.length X) := bc a 3
          have gc := Zae a.out 0
          have gf := Zae a.out 1
          have gg := Zae a.out 2
          have gh := Zae a.out 3
          have aC : 0 ≤ (c : Int) := ofD
          have aD : c < (u.length : Int) := ofD
          obtain ⟨cE, eF, eG, db, ai, ap, aq⟩ := Zca dk.out c aC aD
          cases db
          replace ai := (HB.out.cell (wB w ai)).trans ai
          have bq := mA aq
          have dZ := mA ap
          clear aq ap
          replace aC := eq_true aC
          replace aD := eq_true aD
          have aE : 0 ≤ (A : Int) := ofD
          have aG : A < ((Zah u c).length : Int) := ofD
          obtain ⟨fe, dc, aj⟩ := zO bq.out A aE aG
          cases dc
          replace aj := (HB.out.cell (wB w aj)).trans aj
          replace aE := eq_true aE
          replace aG := eq_true aG
          go_wp2_with (first | ((with_reducible refine Zap (N := 100) rfl ?_); refine Kd.Z_lit (Kd.int .u8) _ 5 ?hg (N := 100) ?hd (xs := ([((-1) / 256) % 256, ((-1)) % 256] : List Int)) (inner := [.int .u8 (((-1) / 256) % 256), .int .u8 (((-1)) % 256)]) (ok := fun _ => True) (okp := fun _ => True) ?hr ?hp (fun _ hk => hk) trivial (Below.refl _ _) (Nat.le_refl _) (by simp) ?_; (case hd => rfl); (case hg => rfl); (case hr => first | (go_simp; done) | (go_simp; rfl)); (case hp => exact (Reps.one (show Kd.M (Kd.int .u8) _ _ _ (((-1) / 256) % 256) [.int .u8 (((-1) / 256) % 256)] from rfl) (Reps.one (show Kd.M (Kd.int .u8) _ _ _ (((-1)) % 256) [.int .u8 (((-1)) % 256)] from rfl) (Reps.none _ _)))); intro hm hA br hb hg_ hnew_; clear hg_ hnew_; (first | rw [← dK.out] at br | (simp only [Int.reduceToNat] at br; rw [← dK.out] at br)); replace m := mA (zM (rP m.out) hb); replace y := mA (zM (rP y.out) hb); have aZ := mA (Kd.Z_lower (Kd.Z_new' br (Kd.Z_lt (by (with_reducible repeat (first | apply Kd.Z_alloc | apply Kd.Z_drewN | apply Kd.Z_drew)); exact D.out))) (Zan (bW))); replace D := mA (Kd.Z_elder' (by (with_reducible repeat (first | apply Kd.Z_alloc | apply Kd.Z_drewN | apply Kd.Z_drew)); exact D.out) (Kd.Z_base br) hb); replace a := mA (blkB a.out hb); replace q := mA (blkB q.out hb); replace HB := mA (Zaf (bW) hb); clear hb br; obtain ⟨f0, f1, f2⟩ := Kd.Z_slice aZ.out; subst f2) | ((with_reducible refine Zbp (b := .append) (xs := #[.tmp 94, .tmp 100]) rfl ?_); at_builtin; refine Kd.Z_append_rows (Kd.int .u8) (w0 := w) w.heap.size rfl (.tmp 94) (.tmp 100) 43 5 (.int .u8 0) 1 rfl Try.underlying43 info5 rfl (by decide) (by omega) u11 U cB _ _ _ (fun k_ => some k_ ≠ (.slice f0 cB.length f1 : Value).ownBlock) (fun _ => False) rfl rfl ?aO ?aR (fun _ _ h => h) (fun _ h => h.elim) ?aF ?aB ?aS ?aL ?_; (case aR => exact cP ((Kd.Z_reads' aZ.out).2.2)); (case aB => exact (bW)); (case aF => exact (fun k_ hk => zY (Kd.Z_lt (by (with_reducible repeat (first | apply Kd.Z_alloc | apply Kd.Z_drewN | apply Kd.Z_drew)); exact aZ.out)) k_ hk)); (case aO => exact (by (with_reducible repeat (first | apply Kd.Z_alloc | apply Kd.Z_drewN | apply Kd.Z_drew)); exact Kd.Z_mono D.out (fun _ hk => hk.2))); (case aS => exact (Zan (bW))); (case aL => have := fc.out; omega); intro hq hB ho hb hg hat; rw [← fd.out] at ho; replace m := mA (Kd.R_overZ' (rP m.out) (Kd.Z_typed (by (with_reducible repeat (first | apply Kd.Z_alloc | apply Kd.Z_drewN | apply Kd.Z_drew)); exact D.out)) (by decide) hg); replace y := mA (Kd.R_overZ' (rP y.out) (Kd.Z_typed (by (with_reducible repeat (first | apply Kd.Z_alloc | apply Kd.Z_drewN | apply Kd.Z_drew)); exact D.out)) (by decide) hg); replace a := mA (Zaq (g := z) (o := .cells #[.int .i64 I, .int .i64 J, .slice Y E.length W, .slice (some cE) u.length X] 63 (0, 0)) (bP a.out) hg (Kd.Z_ne D.out a.out (by decide))); replace q := mA (Zaq (g := G) (o := mobj Value.string (Value.int .i64) d) (bP q.out) hg (Kd.Z_nem D.out q.out)); replace aZ := mA (Kd.Z_after (ok := (fun _ => True)) (by (with_reducible repeat (first | apply Kd.Z_alloc | apply Kd.Z_drewN | apply Kd.Z_drew)); exact aZ.out) hg hat); replace HB := mA (hb); have ff := mA (ho); clear D ho hb hg hat))
          go_roundg k4
          case measure => have := ag.out; have := av.out; have := aw.out; have := bu.out; omega
          case rel => exact ⟨(fZ), (wrap64 (A + 1)), (eW), H', ⟨by have := ag.out; have := av.out; have := aw.out; have := bu.out; omega⟩, ⟨by (try simp only [l]); exact rP m.out⟩, ⟨by (try simp only [l]); exact rP y.out⟩, ⟨by (try simp only [l]); (with_reducible repeat (first | apply Kd.Z_alloc | apply Kd.Z_drewN | apply Kd.Z_drew)); exact Kd.Z_mono ff.out (fun _ hk => trivial)⟩, ⟨by (try simp only [l]); exact bP a.out⟩, ⟨by (try simp only [l]); exact bP q.out⟩, ⟨bW⟩⟩
         rw [if_pos b4] at H
         have fb : decide (0 ≤ (rd (Zah u c) A)) = true := dT b4
         clear b4
         by_cases dM : 0 ≤ (rd (Zah u c) A); rotate_left
         ·rw [if_neg dM] at H
          exact absurd H (by simp)
         rw [if_pos dM] at H
         have gY := dT dM
         clear dM
         by_cases dN : (rd (Zah u c) A) < (s.length : Int); rotate_left
         ·rw [if_neg dN] at H
          exact absurd H (by simp)
         rw [if_pos dN] at H
         have fg := dT dN
         (try (have fh := fg; simp only [l] at fh))
         clear dN
         obtain ⟨cF, cG⟩ : ∃ y_ : List Int, y_ = (([((rd s (rd (Zah u c) A)) / 256) % 256, (rd s (rd (Zah u c) A)) % 256] : List Int)) := ⟨_, rfl⟩
         replace H := bsm cG H
         have dO := mA cG
         clear cG
         by_cases dP : U.length + cF.length < 140737488355328; rotate_left
         ·rw [if_neg dP] at H
          exact absurd H (by simp)
         rw [if_pos dP] at H
         have fi := mA dP
         clear dP
         obtain ⟨f3, cH⟩ : ∃ y_ : List Int, y_ = (U ++ cF) := ⟨_, rfl⟩
         rw [← cH] at H
         have fj := mA cH
         clear cH
         have H' := mA H
         clear H
         have gZ := ab.out
         have g0 := ac.out
         have gi : wr.cell? ⟨z, 0, none⟩ = some (.int .i64 I) := bc a 0
         have gj : wr.cell? ⟨z, 1, none⟩ = some (.int .i64 J) := bc a 1
         have gl : wr.cell? ⟨z, 2, none⟩ = some (.slice Y E.length W) := bc a 2
         have gm : wr.cell? ⟨z, 3, none⟩ = some (.slice aa u.length X) := bc a 3
         have gn := Zae a.out 0
         have gp := Zae a.out 1
         have gq := Zae a.out 2
         have gr := Zae a.out 3
         have aC : 0 ≤ (c : Int) := ofD
         have aD : c < (u.length : Int) := ofD
         obtain ⟨cE, eF, eG, db, ai, ap, aq⟩ := Zca dk.out c aC aD
         cases db
         replace ai := (HB.out.cell (wB w ai)).trans ai
         have bq := mA aq
         have dZ := mA ap
         clear aq ap
         replace aC := eq_true aC
         replace aD := eq_true aD
         have aE : 0 ≤ (A : Int) := ofD
         have aG : A < ((Zah u c).length : Int) := ofD
         obtain ⟨fe, dc, aj⟩ := zO bq.out A aE aG
         cases dc
         replace aj := (HB.out.cell (wB w aj)).trans aj
         replace aE := eq_true aE
         replace aG := eq_true aG
         have dd : 0 ≤ ((rd (Zah u c) A) : Int) := ofD
         have de : (rd (Zah u c) A) < (s.length : Int) := ofD
         obtain ⟨fk, f4, gs⟩ := zO (zK m.out).2.2 (rd (Zah u c) A) dd de
         obtain rfl : af = fk := (by injection f4)
         replace dd := eq_true dd
         replace de := eq_true de
         go_wp2_with (first | ((with_reducible refine Zap (N := 100) rfl ?_); refine Kd.Z_lit (Kd.int .u8) _ 5 ?hg (N := 100) ?hd (xs := ([((rd s (rd (Zah u c) A)) / 256) % 256, (rd s (rd (Zah u c) A)) % 256] : List Int)) (inner := [.int .u8 (((rd s (rd (Zah u c) A)) / 256) % 256), .int .u8 ((rd s (rd (Zah u c) A)) % 256)]) (ok := fun _ => True) (okp := fun _ => True) ?hr ?hp (fun _ hk => hk) trivial (Below.refl _ _) (Nat.le_refl _) (by simp) ?_; (case hd => rfl); (case hg => rfl); (case hr => first | (go_simp; done) | (go_simp; rfl)); (case hp => exact (Reps.one (show Kd.M (Kd.int .u8) _ _ _ (((rd s (rd (Zah u c) A)) / 256) % 256) [.int .u8 (((rd s (rd (Zah u c) A)) / 256) % 256)] from rfl) (Reps.one (show Kd.M (Kd.int .u8) _ _ _ ((rd s (rd (Zah u c) A)) % 256) [.int .u8 ((rd s (rd (Zah u c) A)) % 256)] from rfl) (Reps.none _ _)))); intro hs hC bs hb hg_ hnew_; clear hg_ hnew_; (first | rw [← dO.out] at bs | (simp only [Int.reduceToNat] at bs; rw [← dO.out] at bs)); replace m := mA (zM (rP m.out) hb); replace y := mA (zM (rP y.out) hb); have a0 := mA (Kd.Z_lower (Kd.Z_new' bs (Kd.Z_lt (by (with_reducible repeat (first | apply Kd.Z_alloc | apply Kd.Z_drewN | apply Kd.Z_drew)); exact D.out))) (Zan (bW))); replace D := mA (Kd.Z_elder' (by (with_reducible repeat (first | apply Kd.Z_alloc | apply Kd.Z_drewN | apply Kd.Z_drew)); exact D.out) (Kd.Z_base bs) hb); replace a := mA (blkB a.out hb); replace q := mA (blkB q.out hb); replace HB := mA (Zaf (bW) hb); clear hb bs; obtain ⟨f5, f6, f7⟩ := Kd.Z_slice a0.out; subst f7) | ((with_reducible refine Zbp (b := .append) (xs := #[.tmp 94, .tmp 100]) rfl ?_); at_builtin; refine Kd.Z_append_rows (Kd.int .u8) (w0 := w) w.heap.size rfl (.tmp 94) (.tmp 100) 43 5 (.int .u8 0) 1 rfl Try.underlying43 info5 rfl (by decide) (by omega) u11 U cF _ _ _ (fun k_ => some k_ ≠ (.slice f5 cF.length f6 : Value).ownBlock) (fun _ => False) rfl rfl ?aO ?aR (fun _ _ h => h) (fun _ h => h.elim) ?aF ?aB ?aS ?aL ?_; (case aR => exact cP ((Kd.Z_reads' a0.out).2.2)); (case aB => exact (bW)); (case aF => exact (fun k_ hk => zY (Kd.Z_lt (by (with_reducible repeat (first | apply Kd.Z_alloc | apply Kd.Z_drewN | apply Kd.Z_drew)); exact a0.out)) k_ hk)); (case aO => exact (by (with_reducible repeat (first | apply Kd.Z_alloc | apply Kd.Z_drewN | apply Kd.Z_drew)); exact Kd.Z_mono D.out (fun _ hk => hk.2))); (case aS => exact (Zan (bW))); (case aL => have := fi.out; omega); intro ht hD ho hb hg hat; rw [← fj.out] at ho; replace m := mA (Kd.R_overZ' (rP m.out) (Kd.Z_typed (by (with_reducible repeat (first | apply Kd.Z_alloc | apply Kd.Z_drewN | apply Kd.Z_drew)); exact D.out)) (by decide) hg); replace y := mA (Kd.R_overZ' (rP y.out) (Kd.Z_typed (by (with_reducible repeat (first | apply Kd.Z_alloc | apply Kd.Z_drewN | apply Kd.Z_drew)); exact D.out)) (by decide) hg); replace a := mA (Zaq (g := z) (o := .cells #[.int .i64 I, .int .i64 J, .slice Y E.length W, .slice (some cE) u.length X] 63 (0, 0)) (bP a.out) hg (Kd.Z_ne D.out a.out (by decide))); replace q := mA (Zaq (g := G) (o := mobj Value.string (Value.int .i64) d) (bP q.out) hg (Kd.Z_nem D.out q.out)); replace a0 := mA (Kd.Z_after (ok := (fun _ => True)) (by (with_reducible repeat (first | apply Kd.Z_alloc | apply Kd.Z_drewN | apply Kd.Z_drew)); exact a0.out) hg hat); replace HB := mA (hb); have fl := mA (ho); clear D ho hb hg hat))
         go_roundg k4
         case measure => have := ag.out; have := av.out; have := aw.out; have := bu.out; omega
         case rel => exact ⟨(f3), (wrap64 (A + 1)), (eW), H', ⟨by have := ag.out; have := av.out; have := aw.out; have := bu.out; omega⟩, ⟨by (try simp only [l]); exact rP m.out⟩, ⟨by (try simp only [l]); exact rP y.out⟩, ⟨by (try simp only [l]); (with_reducible repeat (first | apply Kd.Z_alloc | apply Kd.Z_drewN | apply Kd.Z_drew)); exact Kd.Z_mono fl.out (fun _ hk => trivial)⟩, ⟨by (try simp only [l]); exact bP a.out⟩, ⟨by (try simp only [l]); exact bP q.out⟩, ⟨bW⟩⟩
end Go.Proofs.Ytgindgodfcfgkaa.P
end M0
