import Derived.Test.YtgindgodfcfgkaaDoorCFnExactLettersCommute9
import Derived.Test.YtgindgodfcfgkaaDoorCFnExactLettersCommute13
section M0
namespace Go.Proofs.YtgindgodfcfgkaaDoor.P
open Go.RowKit Go.Proofs.YtgindgodfcfgkaaDoor.Sh Go.Proofs.YtgindgodfcfgkaaDoorW.PrintWords Go.Proofs.YtgindgodfcfgkaaDoorW.PrintLast Go.Proofs.YtgindgodfcfgkaaDoorW.PrintMore
open Kd
attribute [local go_sem] Zcd Zca Zcn Zcm Zb1 Zb2 Zcc Zce   -- for this text's walks alone
set_option linter.unusedVariables false
set_option linter.unusedSimpArgs false
mutual
def Zam.l0 : Nat → List Bool → List Int → Int → Int → Int → Int → List Bool → List (List Int) → Option (List Int)
 | 0, _, _, _, _, _, _, _, _ => none
 | k + 1, x1, x5, g, b, c, d, a, e => if b < g then (if 0 ≤ b then (if b < (x1.length : Int) then (if rdOf false x1 b = true then (if b < (a.length : Int) then (if rdOf false a b = true then (if b < (x5.length : Int) then (Zam.l0 k x1 (x5.set (b : Int).toNat 1) g (wrap64 (b + 1)) c d a e) else (none)) else (Zam.l0 k x1 x5 g (wrap64 (b + 1)) c d a e)) else (none)) else (if b < (x5.length : Int) then (Zam.l0 k x1 (x5.set (b : Int).toNat (-1)) g (wrap64 (b + 1)) c d a e) else (none))) else (none)) else (none)) else (Zam.l1 k x5 0 c d a e)
def Zam.l1 : Nat → List Int → Int → Int → Int → List Bool → List (List Int) → Option (List Int)
 | 0, _, _, _, _, _, _ => none
 | k + 1, x5, x7, a, b, c, d => if 0 ≤ (x5.length : Int) then (if ((x5.length : Int) : Int).toNat ≤ 35184372088832 then (Zam.l2 k x5 x7 (List.replicate ((x5.length : Int) : Int).toNat 0) (x5.length : Int) 0 a b c d ([] : List (ByteArray × Int))) else (none)) else (none)
def Zam.l2 : Nat → List Int → Int → List Int → Int → Int → Int → Int → List Bool → List (List Int) → List (ByteArray × Int) → Option (List Int)
 | 0, _, _, _, _, _, _, _, _, _, _ => none
 | k + 1, x5, x7, x9, h, a, b, d, e, g, c => if a < h then (if 0 ≤ a then (if a < (x5.length : Int) then (if (rd x5 a) < 0 then (if a < (x9.length : Int) then (Zam.l2 k x5 x7 (x9.set (a : Int).toNat (-1)) h (wrap64 (a + 1)) b d e g c) else (none)) else ((Zcb.f k (([(rd x5 a) / 256, Go.bits .and .i64 (rd x5 a) 255] : List Int))).bind fun i => (if i.size ≤ 140737488355328 then (Zam.l3 k x5 x7 x9 a (bytesOf i) h a b 0 b d e g c) else (none)))) else (none)) else (none)) else (if (c.length : Int) = x7 then (some x9) else (Zam.l1 k x9 (c.length : Int) b d e g))
def Zam.l3 : Nat → List Int → Int → List Int → Int → List Int → Int → Int → Int → Int → Int → Int → List Bool → List (List Int) → List (ByteArray × Int) → Option (List Int)
 | 0, _, _, _, _, _, _, _, _, _, _, _, _, _, _ => none
 | k + 1, x5, x7, x9, c, i, j, l, m, h, d, e, g, a, b => if h < m then (if 0 ≤ c then (if c < (a.length : Int) then (if 0 ≤ h then (if h < ((Zae a c).length : Int) then (if (rd (Zae a c) h) ≥ 0 then (if 0 ≤ (rd (Zae a c) h) then (if (rd (Zae a c) h) < (x5.length : Int) then ((some (([((rd x5 (rd (Zae a c) h)) / 256) % 256, (rd x5 (rd (Zae a c) h)) % 256] : List Int) : List Int)).bind fun n => (if i.length + n.length < 140737488355328 then (Zam.l3 k x5 x7 x9 c (i ++ n) j l m (wrap64 (h + 1)) d e g a b) else (none))) else (none)) else (none)) else ((some (([((-1) / 256) % 256, ((-1)) % 256] : List Int) : List Int)).bind fun o => (if i.length + o.length < 140737488355328 then (Zam.l3 k x5 x7 x9 c (i ++ o) j l m (wrap64 (h + 1)) d e g a b) else (none)))) else (none)) else (none)) else (none)) else (none)) else (if (mhas b (strOfNums i) = true) then (if 0 ≤ c then (if c < (x9.length : Int) then (Zam.l2 k x5 x7 (x9.set (c : Int).toNat (mget 0 b (strOfNums i))) j (wrap64 (l + 1)) d e g a b) else (none)) else (none)) else (if 0 ≤ c then (if c < (x9.length : Int) then (Zam.l2 k x5 x7 (x9.set (c : Int).toNat (b.length : Int)) j (wrap64 (l + 1)) d e g a (mset b (strOfNums i) (b.length : Int))) else (none)) else (none)))
end
def Zam.f (k : Nat) (c : Int) (d : Int) (e : List Bool) (a : List (List Int)) (l1 : List Bool) : Option (List Int) := if 0 ≤ (a.length : Int) then (if ((a.length : Int) : Int).toNat ≤ 35184372088832 then ((some (List.replicate ((a.length : Int) : Int).toNat 0 : List Int)).bind fun b => (Zam.l0 k l1 b (b.length : Int) 0 c d e a)) else (none)) else (none)
def Zam.T17 : Bool × List (List Nat × List Nat) := (true, [([], []), ([], []), ([0, 1], [0, 1]), ([2], [2]), ([3], [3]), ([], []), ([], []), ([5, 6], [5, 6]), ([7], [7]), ([8], [8]), ([4, 9], [4, 9]), ([10], [10]), ([11], [11]), ([12, 11, 0, 1, 2, 3, 4, 5, 6, 7, 8, 9, 10, 11, 12], [12])])
def Zam.B17 : List Nat := [0, 0, 3, 7, 15, 0, 0, 96, 224, 480, 1023, 2047, 4095, 8191]
theorem Zam.tab17 : rtab .any (opsOf Tryd.f52 17) = Zam.T17 := by kernel_rfl
theorem Zam.bits17 : Zc0 Zam.T17.2 Zam.B17 = true := by kernel_rfl
set_option maxHeartbeats 8000000 in
set_option maxRecDepth 100000 in
theorem Zam.calls (k : Nat) (I : Int) (J : Int) (X : Option Addr) (U : Nat) (D : List Bool) (Y : Option Addr) (W : Nat) (u : List (List Int)) (A1 : Option Addr) (c1 : Nat) (l1 : List Bool) (r : List Int) (w : World) (ce : Kd.C Kd.bool w X D.length D) (cf : D.length ≤ U) (cg : Kd.C (Kd.slice 2 (Kd.int .i64)) w Y u.length u) (ch : u.length ≤ W) (eY : Kd.C Kd.bool w A1 l1.length l1) (eZ : l1.length ≤ c1) (h : Zam.f k I J D u l1 = some r) :
  Calls Tryd.prog 52 #[.agg #[.int .i64 I, .int .i64 J, .slice X D.length U, .slice Y u.length W], .slice A1 l1.length c1] w fun e w' => ∃ e0 : Value, e = .returned (e0) ∧ Kd.R (Kd.int .i64) 2 w' w.heap.size (fun _ => True) e0 r ∧ Below w.heap.size w w' := by
 have g4 := Tryd.underlying48
 have ci := mA ce
 have gH := mA cf
 clear ce cf
 have cj := mA cg
 have gI := mA ch
 clear cg ch
 have dc := mA eY
 have hy := mA eZ
 clear eY eZ
 have HB := mA (Below.refl w.heap.size w)
 unfold Zam.f at h
 have H := h
 clear h
 by_cases c3 : 0 ≤ (u.length : Int); rotate_left
 ·rw [if_neg c3] at H
  exact absurd H (by simp)
 rw [if_pos c3] at H
 have fk := eq_true c3
 have fl := dT c3
 clear c3
 by_cases c4 : ((u.length : Int) : Int).toNat ≤ 35184372088832; rotate_left
 ·rw [if_neg c4] at H
  exact absurd H (by simp)
 rw [if_pos c4] at H
 have fm := eq_true c4
 have fn := dT c4
 clear c4
 obtain ⟨bi, bj⟩ : ∃ y_ : List Int, y_ = (List.replicate ((u.length : Int) : Int).toNat 0) := ⟨_, rfl⟩
 replace H := bsm bj H
 have ck := mA bj
 clear bj
 have H' := mA H
 clear H
 go_enter Tryd.func52, Tryd.ntmps52
 go_wp2_with (first | ((with_reducible refine Zap (N := 2) rfl ?_); refine boxS (N := 2) (cs := #[.int .i64 I, .int .i64 J, .slice X D.length U, .slice Y u.length W]) (t := 48) ?_; intro z hg w5 hbox hb; have a := mA (hbox); have gJ := geW (w := w) hg; have gK := geW (w := w) hg; replace HB := mA (Zac (bW) hb); clear hb hbox hg; obtain ⟨dd, de, df, dg⟩ := Zbi a.out; obtain ⟨dh, di, dj, dk⟩ := frz4 a.out) | ((with_reducible refine Zap (N := 20) rfl ?_); refine xO (Kd.int .i64) _ 2 rfl (N := 20) rfl 22 _ _ rfl (u.length : Int) rfl rfl Tryd.underlying22 (.int .i64 0) 8 info2 rfl (by decide) (by omega) 0 (ok := fun _ => True) (okp := fun _ => True) rfl (fun _ hk => hk) trivial (ofD) (Nat.le_trans (Nat.mul_le_mul_right _ (ofD : (u.length : Int).toNat ≤ 35184372088832)) (by omega)) (Below.refl _ _) (Nat.le_refl _) ?_; intro g5 w7 bS hb hg_ hnew_; clear hg_ hnew_; (first | rw [← ck.out] at bS | (simp only [Int.reduceToNat] at bS; rw [← ck.out] at bS)); have cm := mA (zP bS (Zag (bW))); replace a := mA (blkB a.out hb); replace HB := mA (Zac (bW) hb); clear hb bS; obtain ⟨gs, dl, gu⟩ := zJ cm.out; subst gu))
 go_loopg [23] k (fun kq v23 w' => ∃ (af : List Int) (x : Int), v23 = .int .i64 x ∧ Zaa (Zam.l0 kq l1 af (bi.length : Int) x I J D u = some r) ∧ Zaa (kq ≤ k) ∧ Zaa (Kd.R (Kd.int .i64) 2 w' w.heap.size (fun _ => True) (.slice gs bi.length dl) af) ∧ Zaa (w'.heap[z]? = some (.cells #[.int .i64 I, .int .i64 J, (.slice X D.length U), (.slice Y u.length W)] 48 (0, 0))) ∧ Zaa (Below w.heap.size w w'))
 case atStart => exact ⟨(bi), (0), (eW), H', ⟨Nat.le_refl _⟩, ⟨rP cm.out⟩, ⟨bP a.out⟩, ⟨bW⟩⟩
 case round =>
  clear H' fk fl fm fn dd de df dg dh di dj dk
  obtain ⟨af, x, rfl, HA, ae, m, a, HB⟩ := hrel
  have l := (zE m.out).1
  rw [l] at m
  (try simp only [l])
  (try simp only [l] at a)
  cases gk with
  | zero => exact absurd HA.out (by simp [Zam.l0])
  | succ k1 =>
   have H := HA.out
   clear HA
   simp only [Zam.l0] at H
   by_cases c10 : x < (bi.length : Int)
   ·rw [if_pos c10] at H
    have aZ := dT c10
    (try (have bk := aZ; simp only [l] at bk))
    clear c10
    by_cases cn : 0 ≤ x; rotate_left
    ·rw [if_neg cn] at H
     exact absurd H (by simp)
    rw [if_pos cn] at H
    have gL := dT cn
    clear cn
    by_cases co : x < (l1.length : Int); rotate_left
    ·rw [if_neg co] at H
     exact absurd H (by simp)
    rw [if_pos co] at H
    have d8 := dT co
    (try (have d9 := d8; simp only [l] at d9))
    clear co
    obtain ⟨fo, bl⟩ : ∃ b_ : Bool, b_ = (rdOf false l1 x) := ⟨_, rfl⟩
    rw [← bl] at H
    have aG := mA bl
    clear bl
    by_cases cp : fo = true; rotate_left
    ·replace cp := Bool.eq_false_iff.mpr cp
     subst cp
     rw [iF] at H
     by_cases cq : x < (af.length : Int); rotate_left
     ·rw [if_neg cq] at H
      exact absurd H (by simp)
     rw [if_pos cq] at H
     have ea := dT cq
     (try (have eb := ea; simp only [l] at eb))
     clear cq
     obtain ⟨dm, bm⟩ : ∃ y_ : List Int, y_ = (af.set (x : Int).toNat (-1)) := ⟨_, rfl⟩
     rw [← bm] at H
     have ec := mA bm
     clear bm
     have H' := mA H
     clear H
     have ai : 0 ≤ (x : Int) := ofD
     have aj : x < (l1.length : Int) := ofD
     obtain ⟨cr, a4, G⟩ := yF dc.out x ai aj
     (try rw [← aG.out] at G)
     cases a4
     replace G := (HB.out.cell (wB w G)).trans G
     replace ai := eq_true ai
     replace aj := eq_true aj
     have dn : 0 ≤ (x : Int) := ofD
     have dp : (x : Int) < ((af.length : Int) : Int) := ofD
     obtain ⟨bZ, g6, dq, dr, fp, g7, dt⟩ := yV m.out (by omega)
     (first | cases dq | (injection dq with ea_ en_ ec_; (first | subst ea_ | (injection ea_ with ea_; subst ea_)); subst ec_; clear en_))
     have fq := mA dr
     have g8 := mA dt
     clear dr fp dt
     obtain ⟨gv, gw⟩ := yH 0 m.out (x : Int) dn dp
     replace dn := eq_true dn
     replace dp := eq_true dp
     have b0 := yN m.out (x : Int) (-1)
     go_wp2_with (first | ((with_reducible refine Zbp (t := 2) (p := 34) rfl ?_); refine Zdi (t := 2) (p := 34) (w1 := (wr.setCell ⟨bZ, (x : Int).toNat, none⟩ (.int .i64 (-1)))) ?_; intro du hw; have hg : wr.grownBy du (some bZ) := (by rw [hw]; exact b0.2); have hp_ : Kd.R (Kd.int .i64) 2 du w.heap.size (fun _ => True) (.slice (some ⟨bZ, 0, none⟩) af.length dl) dm := (by rw [hw, ec.out]; exact b0.1); clear b0; replace a := mA (Zaq (g := z) (o := .cells #[.int .i64 I, .int .i64 J, .slice X D.length U, .slice Y u.length W] 48 (0, 0)) (bP a.out) hg (zO m.out a.out (by decide))); replace m := mA (hp_); replace HB := mA ((by rw [hw]; exact Zbs (HB.out) fq.out : Below w.heap.size w du)); clear hg hw hp_))
     (try simp only [← l])
     go_roundg k1
     case measure => have := ae.out; omega
     case rel => exact ⟨(dm), (wrap64 (x + 1)), (eW), H', ⟨by have := ae.out; omega⟩, ⟨by (try simp only [l]); exact rP m.out⟩, ⟨by (try simp only [l]); exact bP a.out⟩, ⟨bW⟩⟩
    subst cp
    rw [if_pos rfl] at H
    by_cases ct : x < (D.length : Int); rotate_left
    ·rw [if_neg ct] at H
     exact absurd H (by simp)
    rw [if_pos ct] at H
    have ed := dT ct
    (try (have ee := ed; simp only [l] at ee))
    clear ct
    obtain ⟨fr, bn⟩ : ∃ b_ : Bool, b_ = (rdOf false D x) := ⟨_, rfl⟩
    rw [← bn] at H
    have a0 := mA bn
    clear bn
    by_cases cu : fr = true; rotate_left
    ·replace cu := Bool.eq_false_iff.mpr cu
     subst cu
     rw [iF] at H
     have H' := mA H
     clear H
     have ai : 0 ≤ (x : Int) := ofD
     have aj : x < (l1.length : Int) := ofD
     obtain ⟨cr, a4, G⟩ := yF dc.out x ai aj
     (try rw [← aG.out] at G)
     (try rw [← a0.out] at G)
     cases a4
     replace G := (HB.out.cell (wB w G)).trans G
     replace ai := eq_true ai
     replace aj := eq_true aj
     have fO : wr.cell? ⟨z, 0, none⟩ = some (.int .i64 I) := bc a 0
     have fP : wr.cell? ⟨z, 1, none⟩ = some (.int .i64 J) := bc a 1
     have fQ : wr.cell? ⟨z, 2, none⟩ = some (.slice X D.length U) := bc a 2
     have fR : wr.cell? ⟨z, 3, none⟩ = some (.slice Y u.length W) := bc a 3
     have fS := Zab a.out 0
     have fT := Zab a.out 1
     have fU := Zab a.out 2
     have fV := Zab a.out 3
     have ax : 0 ≤ (x : Int) := ofD
     have ay : x < (D.length : Int) := ofD
     obtain ⟨cv, b1, aa⟩ := yF ci.out x ax ay
     (try rw [← aG.out] at aa)
     (try rw [← a0.out] at aa)
     cases b1
     replace aa := (HB.out.cell (wB w aa)).trans aa
     replace ax := eq_true ax
     replace ay := eq_true ay
     go_wp2
     (try simp only [← l])
     go_roundg k1
     case measure => have := ae.out; omega
     case rel => exact ⟨(af), (wrap64 (x + 1)), (eW), H', ⟨by have := ae.out; omega⟩, ⟨by (try simp only [l]); exact rP m.out⟩, ⟨by (try simp only [l]); exact bP a.out⟩, ⟨bW⟩⟩
    subst cu
    rw [if_pos rfl] at H
    by_cases cw : x < (af.length : Int); rotate_left
    ·rw [if_neg cw] at H
     exact absurd H (by simp)
    rw [if_pos cw] at H
    have ef := dT cw
    (try (have eg := ef; simp only [l] at eg))
    clear cw
    obtain ⟨dv, bo⟩ : ∃ y_ : List Int, y_ = (af.set (x : Int).toNat 1) := ⟨_, rfl⟩
    rw [← bo] at H
    have eh := mA bo
    clear bo
    have H' := mA H
    clear H
    have ai : 0 ≤ (x : Int) := ofD
    have aj : x < (l1.length : Int) := ofD
    obtain ⟨cr, a4, G⟩ := yF dc.out x ai aj
    (try rw [← aG.out] at G)
    (try rw [← a0.out] at G)
    cases a4
    replace G := (HB.out.cell (wB w G)).trans G
    replace ai := eq_true ai
    replace aj := eq_true aj
    have fW : wr.cell? ⟨z, 0, none⟩ = some (.int .i64 I) := bc a 0
    have fX : wr.cell? ⟨z, 1, none⟩ = some (.int .i64 J) := bc a 1
    have fY : wr.cell? ⟨z, 2, none⟩ = some (.slice X D.length U) := bc a 2
    have fZ : wr.cell? ⟨z, 3, none⟩ = some (.slice Y u.length W) := bc a 3
    have f3 := Zab a.out 0
    have f4 := Zab a.out 1
    have f5 := Zab a.out 2
    have f6 := Zab a.out 3
    have ax : 0 ≤ (x : Int) := ofD
    have ay : x < (D.length : Int) := ofD
    obtain ⟨cv, b1, aa⟩ := yF ci.out x ax ay
    (try rw [← aG.out] at aa)
    (try rw [← a0.out] at aa)
    cases b1
    replace aa := (HB.out.cell (wB w aa)).trans aa
    replace ax := eq_true ax
    replace ay := eq_true ay
    have dw : 0 ≤ (x : Int) := ofD
    have dx : (x : Int) < ((af.length : Int) : Int) := ofD
    obtain ⟨b2, g9, dy, dz, fs, ha, dA⟩ := yV m.out (by omega)
    (first | cases dy | (injection dy with ea_ en_ ec_; (first | subst ea_ | (injection ea_ with ea_; subst ea_)); subst ec_; clear en_))
    have ft := mA dz
    have hc := mA dA
    clear dz fs dA
    obtain ⟨gx, gy⟩ := yH 0 m.out (x : Int) dw dx
    replace dw := eq_true dw
    replace dx := eq_true dx
    have b3 := yN m.out (x : Int) 1
    go_wp2_with (first | ((with_reducible refine Zbp (t := 2) (p := 43) rfl ?_); refine Zdi (t := 2) (p := 43) (w1 := (wr.setCell ⟨b2, (x : Int).toNat, none⟩ (.int .i64 1))) ?_; intro dB hw; have hg : wr.grownBy dB (some b2) := (by rw [hw]; exact b3.2); have hp_ : Kd.R (Kd.int .i64) 2 dB w.heap.size (fun _ => True) (.slice (some ⟨b2, 0, none⟩) af.length dl) dv := (by rw [hw, eh.out]; exact b3.1); clear b3; replace a := mA (Zaq (g := z) (o := .cells #[.int .i64 I, .int .i64 J, .slice (some cv) D.length U, .slice Y u.length W] 48 (0, 0)) (bP a.out) hg (zO m.out a.out (by decide))); replace m := mA (hp_); replace HB := mA ((by rw [hw]; exact Zbs (HB.out) ft.out : Below w.heap.size w dB)); clear hg hw hp_))
    (try simp only [← l])
    go_roundg k1
    case measure => have := ae.out; omega
    case rel => exact ⟨(dv), (wrap64 (x + 1)), (eW), H', ⟨by have := ae.out; omega⟩, ⟨by (try simp only [l]); exact rP m.out⟩, ⟨by (try simp only [l]); exact bP a.out⟩, ⟨bW⟩⟩
   rw [if_neg c10] at H
   have aZ := dF c10
   (try (have bk := aZ; simp only [l] at bk))
   clear c10
   have H' := mA H
   clear H
   go_wp2
   go_loopg [5, 7] k1 (fun kq v5 v7 w' => ∃ (s : List Int) (al : Int), v7 = .int .i64 al ∧ Zaa (Zam.l1 kq s al I J D u = some r) ∧ Zaa (kq ≤ k1) ∧ Zaa (Kd.R (Kd.int .i64) 2 w' w.heap.size (fun _ => True) v5 s) ∧ Zaa (w'.heap[z]? = some (.cells #[.int .i64 I, .int .i64 J, (.slice X D.length U), (.slice Y u.length W)] 48 (0, 0))) ∧ Zaa (Below w.heap.size w w'))
   case atStart => exact ⟨(af), (0), (eW), H', ⟨Nat.le_refl _⟩, ⟨by (try simp only [l]); exact rP m.out⟩, ⟨by (try simp only [l]); exact bP a.out⟩, ⟨bW⟩⟩
   case round =>
    clear H' aZ
    obtain ⟨s, al, rfl, HA, ar, m, a, HB⟩ := hrel
    cases gk with
    | zero => exact absurd HA.out (by simp [Zam.l1])
    | succ k2 =>
     have H := HA.out
     clear HA
     simp only [Zam.l1] at H
     by_cases bT : 0 ≤ (s.length : Int); rotate_left
     ·rw [if_neg bT] at H
      exact absurd H (by simp)
     rw [if_pos bT] at H
     have ei := eq_true bT
     have ej := dT bT
     clear bT
     by_cases bU : ((s.length : Int) : Int).toNat ≤ 35184372088832; rotate_left
     ·rw [if_neg bU] at H
      exact absurd H (by simp)
     rw [if_pos bU] at H
     have ek := eq_true bU
     have el := dT bU
     clear bU
     obtain ⟨b4, bp⟩ : ∃ y_ : List Int, y_ = (List.replicate ((s.length : Int) : Int).toNat 0) := ⟨_, rfl⟩
     rw [← bp] at H
     have a1 := mA bp
     clear bp
     have H' := mA H
     clear H
     try go_wp2
     replace m := mA (zA m.out)
     replace a := mA (Zad a.out)
     replace HB := mA (Za0 HB.out)
     obtain ⟨aK, ak, dC⟩ := zJ m.out
     (first | subst dC | (injection dC with bV dD bX; have dE := bV.symm; have dG := bX.symm; clear bV dD bX; subst dE; subst dG))
     refine Zcq (n := 6) (S := fun w' => True) (ds := []) #[false, false, false, false, false, false] (by kernel_rfl) rfl rfl trivial (fun hHeld => ?_)
     generalize wr.drew = w30 at m a HB hHeld ⊢
     refine Zan (i := 1) (N := some 46) (by kernel_rfl) ?_
     refine Zan (i := 2) (N := some 47) (by kernel_rfl) ?_
     refine join_ (σ := Nat × Value) 1 #[true, true, true, true, true, false] (fun s_ => [(45, .map (some s_.1)), (48, s_.2), (8, .map (some s_.1))]) (fun s_ w' => (Kd.R (Kd.int .i64) 2 w' w.heap.size (fun k_ => some k_ ≠ (.slice aK s.length ak : Value).ownBlock) s_.2 b4) ∧ (Kd.R (Kd.int .i64) 2 w' w.heap.size (fun k_ => some k_ ≠ (s_.2 : Value).ownBlock) (.slice aK s.length ak) s) ∧ (w'.heap[z]? = some (.cells #[.int .i64 I, .int .i64 J, .slice X D.length U, .slice Y u.length W] 48 (0, 0))) ∧ (w'.heap[s_.1]? = some (mobj Value.string (Value.int .i64) ([] : List (ByteArray × Int)))) ∧ (w.heap.size ≤ s_.1) ∧ (w.heap.size ≤ s_.1) ∧ (z ≠ s_.1) ∧ (s_.1 ≠ z) ∧ (Below w.heap.size w w')) ?_ ?_
     rotate_left
     ·intro hCont
      refine two_ (i := 0) (j := 3) (Ni := some 45) (Nj := some 48) #[true, true, true, false, false, false] #[false, true, true, true, false, false] rfl rfl rfl rfl (by kernel_rfl) (by decide) (by decide) (fun K hK => ?_) (fun K hK => ?_)
      ·skip
       refine mapS_step Value.string (Value.int .i64) (by rfl) ?_
       intro E hg gz hbox hb
       replace m := mA (zK (rP m.out) hb)
       have q := mA (hbox)
       have a2 := geW (w := w) hg
       have aH := geW (w := w) hg
       replace HB := mA (Zac (bW) hb)
       have ab := mA (neB hg a)
       have ac := mA (neC hg a)
       replace a := mA (blkB a.out hb)
       clear hb hbox hg
       refine hK.out _ _ trivial (fun hHeld => ?_)
       clear hK K
       refine putS 45 ?_
       refine Zan (i := 4) (N := some 8) (by kernel_rfl) ?_
       refine one_ (i := 3) (N := some 48) #[true, true, true, true, true, false] rfl rfl (by kernel_rfl) (by decide) (fun K hK => ?_)
       refine qF (Kd.int .i64) _ 2 (by rfl) (N := 48) rfl 22 _ _ rfl (s.length : Int) rfl rfl Tryd.underlying22 (.int .i64 0) 8 info2 rfl (by decide) (by omega) 0 (ok := fun _ => True) (okp := fun _ => True) rfl (fun _ hk => hk) trivial (ofD) (Nat.le_trans (Nat.mul_le_mul_right _ (ofD : (s.length : Int).toNat ≤ 35184372088832)) (by omega)) (Below.refl _ _) (Nat.le_refl _) ?_
       intro am hz aM hb hg_ hnew_
       clear hg_ hnew_
       (first | rw [← a1.out] at aM | (simp only [Int.reduceToNat] at aM; rw [← a1.out] at aM))
       have ap := mA (zP (zS aM (zG (rP m.out))) (Zag (bW)))
       replace m := mA (zR (rP m.out) (zH aM) hb)
       replace a := mA (blkB a.out hb)
       replace q := mA (blkB q.out hb)
       replace HB := mA (Zac (bW) hb)
       clear hb aM
       refine hK.out _ _ trivial (fun hHeld => ?_)
       clear hK K
       refine putS 48 ?_
       exact norm_ (by simp only [putAll, Act.put, List.setIfInBounds_toArray, List.set_cons_zero, List.set_cons_succ]) (hCont (E, am) _ ⟨(by (with_reducible repeat (first | apply zC | apply zD | apply zA)); exact zB ap.out (fun _ hk => hk.2)), (by (with_reducible repeat (first | apply zC | apply zD | apply zA)); exact zB m.out (fun _ hk => hk.2)), (bP a.out), (bP q.out), a2.out, aH.out, ab.out, ac.out, (bW)⟩)
      skip
      refine qF (Kd.int .i64) _ 2 (by rfl) (N := 48) rfl 22 _ _ rfl (s.length : Int) rfl rfl Tryd.underlying22 (.int .i64 0) 8 info2 rfl (by decide) (by omega) 0 (ok := fun _ => True) (okp := fun _ => True) rfl (fun _ hk => hk) trivial (ofD) (Nat.le_trans (Nat.mul_le_mul_right _ (ofD : (s.length : Int).toNat ≤ 35184372088832)) (by omega)) (Below.refl _ _) (Nat.le_refl _) ?_
      intro am gz aN hb hg_ hnew_
      clear hg_ hnew_
      (first | rw [← a1.out] at aN | (simp only [Int.reduceToNat] at aN; rw [← a1.out] at aN))
      have ap := mA (zP (zS aN (zG (rP m.out))) (Zag (bW)))
      replace m := mA (zR (rP m.out) (zH aN) hb)
      replace a := mA (blkB a.out hb)
      replace HB := mA (Zac (bW) hb)
      clear hb aN
      refine hK.out _ _ trivial (fun hHeld => ?_)
      clear hK K
      refine putS 48 ?_
      refine one_ (i := 0) (N := some 45) #[true, true, true, true, false, false] rfl rfl (by kernel_rfl) (by decide) (fun K hK => ?_)
      refine mapS_step Value.string (Value.int .i64) (by rfl) ?_
      intro E hg hA hbox hb
      replace m := mA (zK (rP m.out) hb)
      replace ap := mA (zK (rP ap.out) hb)
      have q := mA (hbox)
      have a2 := geW (w := w) hg
      have aH := geW (w := w) hg
      replace HB := mA (Zac (bW) hb)
      have ab := mA (neB hg a)
      have ac := mA (neC hg a)
      replace a := mA (blkB a.out hb)
      clear hb hbox hg
      refine hK.out _ _ trivial (fun hHeld => ?_)
      clear hK K
      refine putS 45 ?_
      refine Zan (i := 4) (N := some 8) (by kernel_rfl) ?_
      exact norm_ (by simp only [putAll, Act.put, List.setIfInBounds_toArray, List.set_cons_zero, List.set_cons_succ]) (hCont (E, am) _ ⟨(by (with_reducible repeat (first | apply zC | apply zD | apply zA)); exact zB ap.out (fun _ hk => hk.2)), (by (with_reducible repeat (first | apply zC | apply zD | apply zA)); exact zB m.out (fun _ hk => hk.2)), (bP a.out), (bP q.out), a2.out, aH.out, ab.out, ac.out, (bW)⟩)
     rintro ⟨E, am⟩ w35 ⟨e1, e2, e3, e4, e5, e6, e7, e8, e9⟩
     have fa : Zaa (Kd.R (Kd.int .i64) 2 w35 w.heap.size (fun k_ => some k_ ≠ (.slice aK s.length ak : Value).ownBlock) am b4) := ⟨e1⟩
     have fb : Zaa (Kd.R (Kd.int .i64) 2 w35 w.heap.size (fun k_ => some k_ ≠ (am : Value).ownBlock) (.slice aK s.length ak) s) := ⟨e2⟩
     have fc : Zaa (w35.heap[z]? = some (.cells #[.int .i64 I, .int .i64 J, .slice X D.length U, .slice Y u.length W] 48 (0, 0))) := ⟨e3⟩
     have fd : Zaa (w35.heap[E]? = some (mobj Value.string (Value.int .i64) ([] : List (ByteArray × Int)))) := ⟨e4⟩
     have fe : Zaa (w.heap.size ≤ E) := ⟨e5⟩
     have ff : Zaa (w.heap.size ≤ E) := ⟨e6⟩
     have fg : Zaa (z ≠ E) := ⟨e7⟩
     have fh : Zaa (E ≠ z) := ⟨e8⟩
     have fi : Zaa (Below w.heap.size w w35) := ⟨e9⟩
     clear m a HB e1 e2 e3 e4 e5 e6 e7 e8 e9; have ap := fa; have m := fb; have a := fc; have q := fd; have a2 := fe; have aH := ff; have ab := fg; have ac := fh; have HB := fi; clear fa fb fc fd fe ff fg fh fi
     have hHeld := trivial
     refine norm_ (a' := ?_) ?_ ?_
     rotate_left
     ·simp only [putAll, Act.put, List.setIfInBounds_toArray, List.set_cons_zero, List.set_cons_succ]
      rfl
     refine Zan (i := 5) (N := some 9) (by kernel_rfl) ?_
     refine Zcz (by kernel_rfl) ?_
     try go_wp2
     go_loopg [51] k2 (fun kq v51 w' => ∃ (O : List Int) (c : Int) (d : List (ByteArray × Int)), v51 = .int .i64 c ∧ Zaa (Zam.l2 kq s al O (s.length : Int) c I J D u d = some r) ∧ Zaa (kq ≤ k2) ∧ Zaa (Kd.R (Kd.int .i64) 2 w' w.heap.size (fun k_ => some k_ ≠ (am : Value).ownBlock) (.slice aK s.length ak) s) ∧ Zaa (Kd.R (Kd.int .i64) 2 w' w.heap.size (fun k_ => some k_ ≠ ((.slice aK s.length ak) : Value).ownBlock) am O) ∧ Zaa (w'.heap[z]? = some (.cells #[.int .i64 I, .int .i64 J, (.slice X D.length U), (.slice Y u.length W)] 48 (0, 0))) ∧ Zaa (w'.heap[E]? = some (mobj Value.string (Value.int .i64) d)) ∧ Zaa (Below w.heap.size w w'))
     case atStart => exact ⟨(b4), (0), (([] : List (ByteArray × Int))), (eW), H', ⟨Nat.le_refl _⟩, ⟨by (try simp only [l]); exact rP m.out⟩, ⟨by (try simp only [l]); exact rP ap.out⟩, ⟨by (try simp only [l]); exact bP a.out⟩, ⟨by (try simp only [l]); exact bP q.out⟩, ⟨bW⟩⟩
     case round =>
      clear H' ei ej ek el
      obtain ⟨O, c, d, rfl, HA, au, m, y, a, q, HB⟩ := hrel
      cases gk with
      | zero => exact absurd HA.out (by simp [Zam.l2])
      | succ k3 =>
       have H := HA.out
       clear HA
       simp only [Zam.l2] at H
       by_cases ba : c < (s.length : Int); rotate_left
       ·rw [if_neg ba] at H
        have a3 := dF ba
        (try (have bq := a3; simp only [l] at bq))
        clear ba
        by_cases a5 : (d.length : Int) = al
        ·rw [if_pos a5] at H
         have br : ((d.length : Int) == al) = true := beq_iff_eq.mpr a5
         (try (have bs := br; simp only [l] at bs))
         have bu : ((d.length : Int) != al) = false := bne_eq_false_iff_eq.mpr a5
         (try (have bv := bu; simp only [l] at bv))
         clear a5
         obtain rfl := oI H
         go_wp2_with (first | ((with_reducible refine Zbl (b := .len) (xs := #[.tmp 124]) rfl ?_); refine mlenS (eK := Value.string) (eV := (Value.int .i64)) (g := E) (L := d) (bP q.out) Tryd.underlying94 ?_))
         go_ret
         exact ⟨_, eW, by (with_reducible repeat (first | apply zC | apply zD | apply zA)); exact zB y.out (fun _ hk => trivial), bW⟩
        rw [if_neg a5] at H
        have br : ((d.length : Int) == al) = false := beq_eq_false_iff_ne.mpr a5
        (try (have bs := br; simp only [l] at bs))
        have bu : ((d.length : Int) != al) = true := bne_iff_ne.mpr a5
        (try (have bv := bu; simp only [l] at bv))
        have H' := mA H
        clear H
        go_wp2_with (first | ((with_reducible refine Zbl (b := .len) (xs := #[.tmp 124]) rfl ?_); refine mlenS (eK := Value.string) (eV := (Value.int .i64)) (g := E) (L := d) (bP q.out) Tryd.underlying94 ?_) | ((with_reducible refine Zbl (b := .len) (xs := #[.tmp 129]) rfl ?_); refine mlenS (eK := Value.string) (eV := (Value.int .i64)) (g := E) (L := d) (bP q.out) Tryd.underlying94 ?_))
        go_roundg k3
        case measure => have := ae.out; have := ar.out; have := au.out; omega
        case rel => exact ⟨(O), ((d.length : Int)), (eW), H', ⟨by have := ae.out; have := ar.out; have := au.out; omega⟩, ⟨by (try simp only [l]); (with_reducible repeat (first | apply zC | apply zD | apply zA)); exact zB y.out (fun _ hk => trivial)⟩, ⟨by (try simp only [l]); exact bP a.out⟩, ⟨bW⟩⟩
       rw [if_pos ba] at H
       have a3 := dT ba
       (try (have bq := a3; simp only [l] at bq))
       clear ba
       by_cases cx : 0 ≤ c; rotate_left
       ·rw [if_neg cx] at H
        exact absurd H (by simp)
       rw [if_pos cx] at H
       have em := dT cx
       clear cx
       by_cases cy : c < (s.length : Int); rotate_left
       ·rw [if_neg cy] at H
        exact absurd H (by simp)
       rw [if_pos cy] at H
       have cz := dT cy
       (try (have en := cz; simp only [l] at en))
       clear cy
       by_cases bb : (rd s c) < 0
       ·rw [if_pos bb] at H
        have cA := dT bb
        clear bb
        by_cases cB : c < (O.length : Int); rotate_left
        ·rw [if_neg cB] at H
         exact absurd H (by simp)
        rw [if_pos cB] at H
        have eo := dT cB
        (try (have ep := eo; simp only [l] at ep))
        clear cB
        obtain ⟨dH, bw⟩ : ∃ y_ : List Int, y_ = (O.set (c : Int).toNat (-1)) := ⟨_, rfl⟩
        rw [← bw] at H
        have er := mA bw
        clear bw
        have H' := mA H
        clear H
        have av : 0 ≤ (c : Int) := ofD
        have aw : c < (s.length : Int) := ofD
        obtain ⟨ad, b5, bd⟩ := zI (zE m.out).2.2 c av aw
        cases b5
        replace av := eq_true av
        replace aw := eq_true aw
        have dI : 0 ≤ (c : Int) := ofD
        have dJ : (c : Int) < ((O.length : Int) : Int) := ofD
        obtain ⟨a6, b6, dK, dL, fu, he, dM⟩ := yV y.out (by omega)
        (first | cases dK | (injection dK with ea_ en_ ec_; (first | subst ea_ | (injection ea_ with ea_; subst ea_)); subst ec_; clear en_))
        have fv := mA dL
        have hf := mA dM
        clear dL fu dM
        obtain ⟨gA, gB⟩ := yH 0 y.out (c : Int) dI dJ
        replace dI := eq_true dI
        replace dJ := eq_true dJ
        have b7 := yN y.out (c : Int) (-1)
        go_wp2_with (first | ((with_reducible refine Zbp (t := 2) (p := 61) rfl ?_); refine Zdi (t := 2) (p := 61) (w1 := (wr.setCell ⟨a6, (c : Int).toNat, none⟩ (.int .i64 (-1)))) ?_; intro dN hw; have hg : wr.grownBy dN (some a6) := (by rw [hw]; exact b7.2); have hp_ : Kd.R (Kd.int .i64) 2 dN w.heap.size (fun k_ => some k_ ≠ (.slice (some ad) s.length ak : Value).ownBlock) (.slice (some ⟨a6, 0, none⟩) O.length b6) dH := (by rw [hw, er.out]; exact b7.1); clear b7; replace m := mA (zU (v := (.slice (some ⟨a6, 0, none⟩) O.length b6)) (v1 := (.slice (some ⟨a6, 0, none⟩) O.length b6)) (ok := (fun _ => True)) (by (with_reducible repeat (first | apply zC | apply zD | apply zA)); exact zB m.out (fun _ hk => ⟨trivial, hk⟩)) hg (.inl rfl)); replace a := mA (Zaq (g := z) (o := .cells #[.int .i64 I, .int .i64 J, .slice X D.length U, .slice Y u.length W] 48 (0, 0)) (bP a.out) hg (zO y.out a.out (by decide))); replace q := mA (Zaq (g := E) (o := mobj Value.string (Value.int .i64) d) (bP q.out) hg (Kd.R_nem y.out q.out)); replace y := mA (hp_); replace HB := mA ((by rw [hw]; exact Zbs (HB.out) fv.out : Below w.heap.size w dN)); clear hg hw hp_))
        go_roundg k3
        case measure => have := ae.out; have := ar.out; have := au.out; omega
        case rel => exact ⟨(dH), (wrap64 (c + 1)), (d), (eW), H', ⟨by have := ae.out; have := ar.out; have := au.out; omega⟩, ⟨by (try simp only [l]); (with_reducible repeat (first | apply zC | apply zD | apply zA)); exact zB m.out (fun _ hk => hk.2)⟩, ⟨by (try simp only [l]); exact rP y.out⟩, ⟨by (try simp only [l]); exact bP a.out⟩, ⟨by (try simp only [l]); exact bP q.out⟩, ⟨bW⟩⟩
       rw [if_neg bb] at H
       have cA := dF bb
       clear bb
       obtain ⟨dO, bx⟩ : ∃ y_ : List Int, y_ = (([(rd s c) / 256, Go.bits .and .i64 (rd s c) 255] : List Int)) := ⟨_, rfl⟩
       rw [← bx] at H
       have cC := mA bx
       clear bx
       replace H := bE H
       obtain ⟨bz, dP, H⟩ := H
       have gC := mA dP
       clear dP
       by_cases bY : bz.size ≤ 140737488355328; rotate_left
       ·rw [if_neg bY] at H
        exact absurd H (by simp)
       rw [if_pos bY] at H
       have es := eq_true bY
       have et := dT bY
       clear bY
       obtain ⟨fw, bA⟩ : ∃ y_ : List Int, y_ = (bytesOf bz) := ⟨_, rfl⟩
       rw [← bA] at H
       have cD := mA bA
       clear bA
       have H' := mA H
       clear H
       have av : 0 ≤ (c : Int) := ofD
       have aw : c < (s.length : Int) := ofD
       obtain ⟨ad, b5, bd⟩ := zI (zE m.out).2.2 c av aw
       cases b5
       replace av := eq_true av
       replace aw := eq_true aw
       try go_wp2
       replace m := mA (zA m.out)
       replace y := mA (zA y.out)
       replace a := mA (Zad a.out)
       replace q := mA (Zad q.out)
       replace HB := mA (Za0 HB.out)
       have bB : 0 ≤ (c : Int) := ofD
       have bC : c < (s.length : Int) := ofD
       obtain ⟨eu, fx, aP⟩ := zI (zE m.out).2.2 c bB bC
       obtain rfl : ad = eu := (by injection fx)
       replace bB := eq_true bB
       replace bC := eq_true bC
       have bD : 0 ≤ (c : Int) := ofD
       have bF : c < (s.length : Int) := ofD
       obtain ⟨ev, fy, aQ⟩ := zI (zE m.out).2.2 c bD bF
       obtain rfl : ad = ev := (by injection fy)
       replace bD := eq_true bD
       replace bF := eq_true bF
       refine Zcq (n := 14) (S := fun w' => w'.cell? (ad.add (c).toNat) = some (.int .i64 (rd s c)) ∧ w'.cell? (ad.add (c).toNat) = some (.int .i64 (rd s c))) (ds := []) #[false, false, false, false, false, false, false, false, false, false, false, false, false, false] (by kernel_rfl) rfl rfl ⟨aP, aQ⟩ (fun hHeld => ?_); refine Zb7 Zam.tab17 Zam.bits17 (fun HT_ HW_ => ?_)
       generalize wr.drew = w46 at m y a q HB aP aQ hHeld ⊢
       refine Zan (i := 0) (N := some 62) (Zai HT_.out (by kernel_rfl)) ?_
       refine Zan (i := 1) (N := some 63) (Zai HT_.out (by kernel_rfl)) ?_
       refine Zan (i := 2) (N := some 64) (Zai HT_.out (by kernel_rfl)) ?_
       refine Zan (i := 5) (N := some 67) (Zai HT_.out (by kernel_rfl)) ?_
       refine Zan (i := 6) (N := some 68) (Zai HT_.out (by kernel_rfl)) ?_
       refine Zan (i := 7) (N := some 69) (Zai HT_.out (by kernel_rfl)) ?_
       refine Za8 (i := 3) (N := some 65) (Zaz HT_.out HW_.out (by kernel_rfl)) hHeld ?_
       refine Zan (i := 4) (N := some 66) (Zai HT_.out (by kernel_rfl)) ?_
       refine Za8 (i := 8) (N := some 70) (Zaz HT_.out HW_.out (by kernel_rfl)) hHeld ?_
       refine Zan (i := 9) (N := some 71) (Zai HT_.out (by kernel_rfl)) ?_
       refine one_ (i := 10) (N := some 72) #[true, true, true, true, true, true, true, true, true, true, true, false, false, false] rfl rfl (Za9 HT_.out (by kernel_rfl)) (by decide) (fun K hK => ?_)
       refine xP (Kd.int .i64) _ 2 ?hg (N := 72) ?hd (xs := ([(rd s c) / 256, Go.bits .and .i64 (rd s c) 255] : List Int)) (inner := [.int .i64 ((rd s c) / 256), .int .i64 (Go.bits .and .i64 (rd s c) 255)]) (ok := fun _ => True) (okp := fun _ => True) ?hr ?hp (fun _ hk => hk) trivial (Below.refl _ _) (Nat.le_refl _) (by simp) ?_; (case hd => rfl); (case hg => rfl); (case hr => first | (go_simp; done) | (go_simp; rfl)); (case hp => exact (Reps.one (show Kd.M (Kd.int .i64) _ _ _ ((rd s c) / 256) [.int .i64 ((rd s c) / 256)] from rfl) (Reps.one (show Kd.M (Kd.int .i64) _ _ _ (Go.bits .and .i64 (rd s c) 255) [.int .i64 (Go.bits .and .i64 (rd s c) 255)] from rfl) (Reps.none _ _))))
       intro hh hB az hb hg_ hnew_
       have a7 := (hb.cell (World.block_lt_of_cell? _ _ (hHeld.1))).trans (hHeld.1)
       have a8 := (hb.cell (World.block_lt_of_cell? _ _ (hHeld.2))).trans (hHeld.2)
       clear hg_ hnew_
       (first | rw [← cC.out] at az | (simp only [Int.reduceToNat] at az; rw [← cC.out] at az))
       have aq := mA (zP (zS (zS az (zG (rP m.out))) (zG (rP y.out))) (Zag (bW)))
       replace m := mA (zR (rP m.out) (zH az) hb)
       replace y := mA (zR (rP y.out) (zH az) hb)
       replace a := mA (blkB a.out hb)
       replace q := mA (blkB q.out hb)
       replace HB := mA (Zac (bW) hb)
       clear hb az
       obtain ⟨fz, fA, dQ⟩ := zJ aq.out
       (first | subst dQ | (injection dQ with bV dD bX; have dE := bV.symm; have dG := bX.symm; clear bV dD bX; subst dE; subst dG))
       refine hK.out _ _ ⟨a7, a8⟩ (fun hHeld => ?_)
       clear hK K
       refine putS 72 ?_
       refine one_ (i := 11) (N := some 73) #[true, true, true, true, true, true, true, true, true, true, true, true, false, false] rfl rfl (Za9 HT_.out (by kernel_rfl)) (by decide) (fun K hK => ?_)
       refine Zb6 Tryd.func74 (by kernel_rfl) rfl #[.slice fz dO.length fA] (by rfl) rfl rfl (by (try simp only [List.map_toArray, List.map_cons, List.map_nil]); first | done | rfl | (simp only [List.length_drop, List.length_take]; rfl)) ?_
       with_reducible refine (Zcb.calls k3 _ _ dO bz _ ?side1 ?side2 gC.out).mono ?_
       (case side1 => exact cP ((zE aq.out).2.2))
       (case side2 => exact (zE aq.out).2.1)
       rintro e hC ⟨rfl, hb⟩
       have a7 := (hb.cell (World.block_lt_of_cell? _ _ (hHeld.1))).trans (hHeld.1)
       have a8 := (hb.cell (World.block_lt_of_cell? _ _ (hHeld.2))).trans (hHeld.2)
       refine ⟨_, rfl, ?_⟩
       replace m := mA (zK (rP m.out) hb)
       replace y := mA (zK (rP y.out) hb)
       replace aq := mA (zK (rP aq.out) hb)
       replace a := mA (blkB a.out hb)
       replace q := mA (blkB q.out hb)
       replace HB := mA (Zac (bW) hb)
       (try clear hb)
       (try clear hb2)
       (try clear hk)
       (try clear hi)
       refine hK.out _ _ ⟨a7, a8⟩ (fun hHeld => ?_)
       clear hK K
       refine putS 73 ?_
       refine one_ (i := 12) (N := some 74) #[true, true, true, true, true, true, true, true, true, true, true, true, true, false] rfl rfl (Za9 HT_.out (by kernel_rfl)) (by decide) (fun K hK => ?_)
       refine Kd.Z_conv_step 5 (N := 74) bz Tryd.underlying95 Tryd.underlying9 Tryd.underlying5 (ofD) ?_
       intro hj cE a9 hb hg_ hnew_
       have a7 := (hb.cell (World.block_lt_of_cell? _ _ (hHeld.1))).trans (hHeld.1)
       have a8 := (hb.cell (World.block_lt_of_cell? _ _ (hHeld.2))).trans (hHeld.2)
       clear hg_ hnew_
       (first | rw [← cD.out] at a9 | (simp only [Int.reduceToNat] at a9; rw [← cD.out] at a9))
       replace m := mA (zK (rP m.out) hb)
       replace y := mA (zK (rP y.out) hb)
       replace aq := mA (zK (rP aq.out) hb)
       have ew := mA (Kd.Z_lower a9 (Zag (bW)))
       replace a := mA (blkB a.out hb)
       replace q := mA (blkB q.out hb)
       replace HB := mA (Zac (bW) hb)
       clear hb a9
       refine hK.out _ _ ⟨a7, a8⟩ (fun hHeld => ?_)
       clear hK K
       refine putS 74 ?_
       refine Zan (i := 13) (N := some 11) (Zai HT_.out (by kernel_rfl)) ?_
       refine Zcz (Zct HT_.out (by kernel_rfl)) ?_
       have gM := ab.out
       have gN := ac.out
       have cU : cE.cell? ⟨z, 0, none⟩ = some (.int .i64 I) := bc a 0
       have cV : cE.cell? ⟨z, 1, none⟩ = some (.int .i64 J) := bc a 1
       have cW : cE.cell? ⟨z, 2, none⟩ = some (.slice X D.length U) := bc a 2
       have cX : cE.cell? ⟨z, 3, none⟩ = some (.slice Y u.length W) := bc a 3
       have cY := Zab a.out 0
       have cZ := Zab a.out 1
       have c0 := Zab a.out 2
       have da := Zab a.out 3
       try go_wp2
       go_loopg [11, 77] k3 (fun kq v11 v77 w' => ∃ (T : List Int) (A : Int), v77 = .int .i64 A ∧ Zaa (Zam.l3 kq s al O c T (s.length : Int) c I A I J D u d = some r) ∧ Zaa (kq ≤ k3) ∧ Zaa (Kd.R (Kd.int .i64) 2 w' w.heap.size (fun k_ => some k_ ≠ (am : Value).ownBlock) (.slice (some ad) s.length ak) s) ∧ Zaa (Kd.R (Kd.int .i64) 2 w' w.heap.size (fun k_ => some k_ ≠ ((.slice (some ad) s.length ak) : Value).ownBlock) am O) ∧ Zaa (Kd.Z (Kd.int .u8) 5 w' w.heap.size (fun _ => True) v11 T) ∧ Zaa (w'.heap[z]? = some (.cells #[.int .i64 I, .int .i64 J, (.slice X D.length U), (.slice Y u.length W)] 48 (0, 0))) ∧ Zaa (w'.heap[E]? = some (mobj Value.string (Value.int .i64) d)) ∧ Zaa (Below w.heap.size w w'))
       case atStart => exact ⟨(fw), (0), (eW), H', ⟨Nat.le_refl _⟩, ⟨by (try simp only [l]); (with_reducible repeat (first | apply zC | apply zD | apply zA)); exact zB m.out (fun _ hk => hk.1)⟩, ⟨by (try simp only [l]); (with_reducible repeat (first | apply zC | apply zD | apply zA)); exact zB y.out (fun _ hk => hk.1)⟩, ⟨by (try simp only [l]); (with_reducible repeat (first | apply Kd.Z_alloc | apply Kd.Z_drewN | apply Kd.Z_drew)); exact ew.out⟩, ⟨by (try simp only [l]); exact bP a.out⟩, ⟨by (try simp only [l]); exact bP q.out⟩, ⟨bW⟩⟩
       case round =>
        clear H' a3 em cz cA es et cU cV cW cX cY cZ c0 da bd aP aQ av bB bD aw bC bF
        obtain ⟨T, A, rfl, HA, aY, m, y, B, a, q, HB⟩ := hrel
        cases gk with
        | zero => exact absurd HA.out (by simp [Zam.l3])
        | succ k4 =>
         have H := HA.out
         clear HA
         simp only [Zam.l3] at H
         by_cases bf : A < I; rotate_left
         ·rw [if_neg bf] at H
          have ey := dF bf
          clear bf
          by_cases bg : (mhas d (strOfNums T) = true)
          ·rw [if_pos bg] at H
           have ez : mhas d (strOfNums T) = true := bg
           clear bg
           by_cases cF : 0 ≤ c; rotate_left
           ·rw [if_neg cF] at H
            exact absurd H (by simp)
           rw [if_pos cF] at H
           have gO := dT cF
           clear cF
           by_cases cG : c < (O.length : Int); rotate_left
           ·rw [if_neg cG] at H
            exact absurd H (by simp)
           rw [if_pos cG] at H
           have eA := dT cG
           (try (have eB := eA; simp only [l] at eB))
           clear cG
           obtain ⟨dR, bG⟩ : ∃ y_ : List Int, y_ = (O.set (c : Int).toNat (mget 0 d (strOfNums T))) := ⟨_, rfl⟩
           rw [← bG] at H
           have eC := mA bG
           clear bG
           have H' := mA H
           clear H
           have gP := Kd.Z_string (P := Tryd.prog) Tryd.underlying95 Tryd.underlying5 Tryd.underlying9 B.out
           go_wp2_with (first | ((with_reducible refine Zap (N := 107) rfl ?_); refine mgetS (eK := Value.string) (eV := (Value.int .i64)) (g := E) (L := d) 0 (strOfNums T) mkey_str (bP q.out) Tryd.underlying94 Tryd.underlying9 (Tryd.zeroValue2 _) ?_; have dS : 0 ≤ (c : Int) := ofD; have dU : (c : Int) < ((O.length : Int) : Int) := ofD; obtain ⟨aT, bH, dV, dW, fB, hl, dX⟩ := yV y.out (by omega); (first | cases dV | (injection dV with ea_ en_ ec_; (first | subst ea_ | (injection ea_ with ea_; subst ea_)); subst ec_; clear en_)); have fC := mA dW; have hm := mA dX; clear dW fB dX; obtain ⟨gD, gE⟩ := yH 0 y.out (c : Int) dS dU; replace dS := eq_true dS; replace dU := eq_true dU; obtain ⟨gQ, gR⟩ := yH 0 y.out (c : Int) (ofD) (ofD); have b8 := yN y.out (c : Int) (mget 0 d (strOfNums T))) | ((with_reducible refine Zbp (t := 2) (p := 121) rfl ?_); refine Zdq (t := 2) (p := 121) (v := ?vo_w83) (w1 := (wr.setCell ⟨aT, (c : Int).toNat, none⟩ (.int .i64 (mget 0 d (strOfNums T))))) ?hg ?ho ?hn ?hr ?_; (case ho => rfl); (case hg => rfl); (case hn => rfl); (case hr => first | (go_simp; done) | (go_simp; rfl)); intro dY hw; have hg : wr.grownBy dY (some aT) := (by rw [hw]; exact b8.2); have hp_ : Kd.R (Kd.int .i64) 2 dY w.heap.size (fun k_ => some k_ ≠ (.slice (some ad) s.length ak : Value).ownBlock) (.slice (some ⟨aT, 0, none⟩) O.length bH) dR := (by rw [hw, eC.out]; exact b8.1); clear b8; replace m := mA (zU (v := (.slice (some ⟨aT, 0, none⟩) O.length bH)) (v1 := (.slice (some ⟨aT, 0, none⟩) O.length bH)) (ok := (fun _ => True)) (by (with_reducible repeat (first | apply zC | apply zD | apply zA)); exact zB m.out (fun _ hk => ⟨trivial, hk⟩)) hg (.inl rfl)); replace B := mA (Kd.Z_over' (v := (.slice (some ⟨aT, 0, none⟩) O.length bH)) (by (with_reducible repeat (first | apply Kd.Z_alloc | apply Kd.Z_drewN | apply Kd.Z_drew)); exact B.out) (yU y.out) (by decide) hg); replace a := mA (Zaq (g := z) (o := .cells #[.int .i64 I, .int .i64 J, .slice X D.length U, .slice Y u.length W] 48 (0, 0)) (bP a.out) hg (zO y.out a.out (by decide))); replace q := mA (Zaq (g := E) (o := mobj Value.string (Value.int .i64) d) (bP q.out) hg (Kd.R_nem y.out q.out)); replace y := mA (hp_); replace HB := mA ((by rw [hw]; exact Zbs (HB.out) fC.out : Below w.heap.size w dY)); clear hg hw hp_))
           go_roundg k4
           case measure => have := ae.out; have := ar.out; have := au.out; have := aY.out; omega
           case rel => exact ⟨(dR), (wrap64 (c + 1)), (d), (eW), H', ⟨by have := ae.out; have := ar.out; have := au.out; have := aY.out; omega⟩, ⟨by (try simp only [l]); (with_reducible repeat (first | apply zC | apply zD | apply zA)); exact zB m.out (fun _ hk => hk.2)⟩, ⟨by (try simp only [l]); exact rP y.out⟩, ⟨by (try simp only [l]); exact bP a.out⟩, ⟨by (try simp only [l]); exact bP q.out⟩, ⟨bW⟩⟩
          rw [if_neg bg] at H
          have ez : mhas d (strOfNums T) = false := by simpa using bg
          clear bg
          by_cases cH : 0 ≤ c; rotate_left
          ·rw [if_neg cH] at H
           exact absurd H (by simp)
          rw [if_pos cH] at H
          have gS := dT cH
          clear cH
          by_cases cI : c < (O.length : Int); rotate_left
          ·rw [if_neg cI] at H
           exact absurd H (by simp)
          rw [if_pos cI] at H
          have eD := dT cI
          (try (have eE := eD; simp only [l] at eE))
          clear cI
          obtain ⟨dZ, bI⟩ : ∃ y_ : List Int, y_ = (O.set (c : Int).toNat (d.length : Int)) := ⟨_, rfl⟩
          rw [← bI] at H
          have eF := mA bI
          clear bI
          have H' := mA H
          clear H
          have gT := Kd.Z_string (P := Tryd.prog) Tryd.underlying95 Tryd.underlying5 Tryd.underlying9 B.out
          go_wp2_with (first | ((with_reducible refine Zap (N := 107) rfl ?_); refine mgetS (eK := Value.string) (eV := (Value.int .i64)) (g := E) (L := d) 0 (strOfNums T) mkey_str (bP q.out) Tryd.underlying94 Tryd.underlying9 (Tryd.zeroValue2 _) ?_) | ((with_reducible refine Zbl (b := .len) (xs := #[.tmp 112]) rfl ?_); refine mlenS (eK := Value.string) (eV := (Value.int .i64)) (g := E) (L := d) (bP q.out) Tryd.underlying94 ?_; have gU := Kd.Z_string (P := Tryd.prog) Tryd.underlying95 Tryd.underlying5 Tryd.underlying9 B.out) | ((with_reducible refine gate_mset (t := 94) rfl ?_); refine msetS (eK := Value.string) (eV := (Value.int .i64)) (g := E) (L := d) (strOfNums T) (d.length : Int) mkey_str (bP q.out) Tryd.underlying94 Tryd.underlying9 ?_; intro fj hbk hg; replace m := mA (Kd.R_mset (rP m.out) (bP q.out) hg); replace y := mA (Kd.R_mset (rP y.out) (bP q.out) hg); replace B := mA (Kd.Z_mset (by (with_reducible repeat (first | apply Kd.Z_alloc | apply Kd.Z_drewN | apply Kd.Z_drew)); exact B.out) (bP q.out) hg); replace a := mA (Zaq (g := z) (o := .cells #[.int .i64 I, .int .i64 J, .slice X D.length U, .slice Y u.length W] 48 (0, 0)) (bP a.out) hg (fun e_ => ab.out (Option.some.inj e_))); replace q := mA (hbk); replace HB := mA ((fun h_ => Below.grown h_ hg h_.size (fun k_ e_ => by injection e_ with e_; rw [← e_]; exact aH.out)) (bW)); clear hg hbk; have d0 : 0 ≤ (c : Int) := ofD; have d1 : (c : Int) < ((O.length : Int) : Int) := ofD; obtain ⟨aU, bJ, d2, d3, fD, hq, d4⟩ := yV y.out (by omega); (first | cases d2 | (injection d2 with ea_ en_ ec_; (first | subst ea_ | (injection ea_ with ea_; subst ea_)); subst ec_; clear en_)); have fE := mA d3; have hs := mA d4; clear d3 fD d4; obtain ⟨gF, gG⟩ := yH 0 y.out (c : Int) d0 d1; replace d0 := eq_true d0; replace d1 := eq_true d1; obtain ⟨gV, gW⟩ := yH 0 y.out (c : Int) (ofD) (ofD); have b9 := yN y.out (c : Int) (d.length : Int)) | ((with_reducible refine Zbp (t := 2) (p := 121) rfl ?_); refine Zdi (t := 2) (p := 121) (w1 := (fj.setCell ⟨aU, (c : Int).toNat, none⟩ (.int .i64 (d.length : Int)))) ?_; intro d5 hw; have hg : fj.grownBy d5 (some aU) := (by rw [hw]; exact b9.2); have hp_ : Kd.R (Kd.int .i64) 2 d5 w.heap.size (fun k_ => some k_ ≠ (.slice (some ad) s.length ak : Value).ownBlock) (.slice (some ⟨aU, 0, none⟩) O.length bJ) dZ := (by rw [hw, eF.out]; exact b9.1); clear b9; replace m := mA (zU (v := (.slice (some ⟨aU, 0, none⟩) O.length bJ)) (v1 := (.slice (some ⟨aU, 0, none⟩) O.length bJ)) (ok := (fun _ => True)) (by (with_reducible repeat (first | apply zC | apply zD | apply zA)); exact zB m.out (fun _ hk => ⟨trivial, hk⟩)) hg (.inl rfl)); replace B := mA (Kd.Z_over' (v := (.slice (some ⟨aU, 0, none⟩) O.length bJ)) (by (with_reducible repeat (first | apply Kd.Z_alloc | apply Kd.Z_drewN | apply Kd.Z_drew)); exact B.out) (yU y.out) (by decide) hg); replace a := mA (Zaq (g := z) (o := .cells #[.int .i64 I, .int .i64 J, .slice X D.length U, .slice Y u.length W] 48 (0, 0)) (bP a.out) hg (zO y.out a.out (by decide))); replace q := mA (Zaq (g := E) (o := mobj Value.string (Value.int .i64) (mset d (strOfNums T) (d.length : Int))) (bP q.out) hg (Kd.R_nem y.out q.out)); replace y := mA (hp_); replace HB := mA ((by rw [hw]; exact Zbs (HB.out) fE.out : Below w.heap.size w d5)); clear hg hw hp_))
          go_roundg k4
          case measure => have := ae.out; have := ar.out; have := au.out; have := aY.out; omega
          case rel => exact ⟨(dZ), (wrap64 (c + 1)), (mset d (strOfNums T) (d.length : Int)), (eW), H', ⟨by have := ae.out; have := ar.out; have := au.out; have := aY.out; omega⟩, ⟨by (try simp only [l]); (with_reducible repeat (first | apply zC | apply zD | apply zA)); exact zB m.out (fun _ hk => hk.2)⟩, ⟨by (try simp only [l]); exact rP y.out⟩, ⟨by (try simp only [l]); exact bP a.out⟩, ⟨by (try simp only [l]); exact bP q.out⟩, ⟨bW⟩⟩
         rw [if_pos bf] at H
         have ey := dT bf
         clear bf
         by_cases cJ : 0 ≤ c; rotate_left
         ·rw [if_neg cJ] at H
          exact absurd H (by simp)
         rw [if_pos cJ] at H
         have gX := dT cJ
         clear cJ
         by_cases cK : c < (u.length : Int); rotate_left
         ·rw [if_neg cK] at H
          exact absurd H (by simp)
         rw [if_pos cK] at H
         have eG := dT cK
         (try (have eH := eG; simp only [l] at eH))
         clear cK
         by_cases cL : 0 ≤ A; rotate_left
         ·rw [if_neg cL] at H
          exact absurd H (by simp)
         rw [if_pos cL] at H
         have gY := dT cL
         clear cL
         by_cases cM : A < ((Zae u c).length : Int); rotate_left
         ·rw [if_neg cM] at H
          exact absurd H (by simp)
         rw [if_pos cM] at H
         have eI := dT cM
         (try (have eJ := eI; simp only [l] at eJ))
         clear cM
         by_cases bh : (rd (Zae u c) A) ≥ 0; rotate_left
         ·rw [if_neg bh] at H
          have eL : decide (0 ≤ (rd (Zae u c) A)) = false := dF bh
          clear bh
          obtain ⟨bK, bL⟩ : ∃ y_ : List Int, y_ = (([((-1) / 256) % 256, ((-1)) % 256] : List Int)) := ⟨_, rfl⟩
          replace H := bsm bL H
          have cN := mA bL
          clear bL
          by_cases cO : T.length + bK.length < 140737488355328; rotate_left
          ·rw [if_neg cO] at H
           exact absurd H (by simp)
          rw [if_pos cO] at H
          have eM := mA cO
          clear cO
          obtain ⟨fF, bM⟩ : ∃ y_ : List Int, y_ = (T ++ bK) := ⟨_, rfl⟩
          rw [← bM] at H
          have eN := mA bM
          clear bM
          have H' := mA H
          clear H
          have gZ := ab.out
          have g0 := ac.out
          have f7 : wr.cell? ⟨z, 0, none⟩ = some (.int .i64 I) := bc a 0
          have f8 : wr.cell? ⟨z, 1, none⟩ = some (.int .i64 J) := bc a 1
          have f9 : wr.cell? ⟨z, 2, none⟩ = some (.slice X D.length U) := bc a 2
          have ga : wr.cell? ⟨z, 3, none⟩ = some (.slice Y u.length W) := bc a 3
          have gb := Zab a.out 0
          have gc := Zab a.out 1
          have gf := Zab a.out 2
          have gg := Zab a.out 3
          have aA : 0 ≤ (c : Int) := ofD
          have aC : c < (u.length : Int) := ofD
          obtain ⟨bN, d6, d7, ca, ag, an, ao⟩ := Zch cj.out c aA aC
          cases ca
          replace ag := (HB.out.cell (wB w ag)).trans ag
          have aV := mA ao
          have db := mA an
          clear ao an
          replace aA := eq_true aA
          replace aC := eq_true aC
          have aD : 0 ≤ (A : Int) := ofD
          have aE : A < ((Zae u c).length : Int) := ofD
          obtain ⟨eO, cb, ah⟩ := zI aV.out A aD aE
          cases cb
          replace ah := (HB.out.cell (wB w ah)).trans ah
          replace aD := eq_true aD
          replace aE := eq_true aE
          go_wp2_with (first | ((with_reducible refine Zap (N := 100) rfl ?_); refine Kd.Z_lit (Kd.int .u8) _ 5 ?hg (N := 100) ?hd (xs := ([((-1) / 256) % 256, ((-1)) % 256] : List Int)) (inner := [.int .u8 (((-1) / 256) % 256), .int .u8 (((-1)) % 256)]) (ok := fun _ => True) (okp := fun _ => True) ?hr ?hp (fun _ hk => hk) trivial (Below.refl _ _) (Nat.le_refl _) (by simp) ?_; (case hd => rfl); (case hg => rfl); (case hr => first | (go_simp; done) | (go_simp; rfl)); (case hp => exact (Reps.one (show Kd.M (Kd.int .u8) _ _ _ (((-1) / 256) % 256) [.int .u8 (((-1) / 256) % 256)] from rfl) (Reps.one (show Kd.M (Kd.int .u8) _ _ _ (((-1)) % 256) [.int .u8 (((-1)) % 256)] from rfl) (Reps.none _ _)))); intro ht hD aW hb hg_ hnew_; clear hg_ hnew_; (first | rw [← cN.out] at aW | (simp only [Int.reduceToNat] at aW; rw [← cN.out] at aW)); replace m := mA (zK (rP m.out) hb); replace y := mA (zK (rP y.out) hb); have aI := mA (Kd.Z_lower (Kd.Z_new' aW (Kd.Z_lt (by (with_reducible repeat (first | apply Kd.Z_alloc | apply Kd.Z_drewN | apply Kd.Z_drew)); exact B.out))) (Zag (bW))); replace B := mA (Kd.Z_elder' (by (with_reducible repeat (first | apply Kd.Z_alloc | apply Kd.Z_drewN | apply Kd.Z_drew)); exact B.out) (Kd.Z_base aW) hb); replace a := mA (blkB a.out hb); replace q := mA (blkB q.out hb); replace HB := mA (Zac (bW) hb); clear hb aW; obtain ⟨fG, fH, fI⟩ := Kd.Z_slice aI.out; subst fI) | ((with_reducible refine Zbl (b := .append) (xs := #[.tmp 94, .tmp 100]) rfl ?_); at_builtin; refine Kd.Z_append_rows (Kd.int .u8) (w0 := w) w.heap.size rfl (.tmp 94) (.tmp 100) 95 5 (.int .u8 0) 1 rfl Tryd.underlying95 info5 rfl (by decide) (by omega) u11 T bK _ _ _ (fun k_ => some k_ ≠ (.slice fG bK.length fH : Value).ownBlock) (fun _ => False) rfl rfl ?aO ?aR (fun _ _ h => h) (fun _ h => h.elim) ?aF ?aB ?aS ?aL ?_; (case aR => exact cP ((Kd.Z_reads' aI.out).2.2)); (case aB => exact (bW)); (case aF => exact (fun k_ hk => zT (Kd.Z_lt (by (with_reducible repeat (first | apply Kd.Z_alloc | apply Kd.Z_drewN | apply Kd.Z_drew)); exact aI.out)) k_ hk)); (case aO => exact (by (with_reducible repeat (first | apply Kd.Z_alloc | apply Kd.Z_drewN | apply Kd.Z_drew)); exact Kd.Z_mono B.out (fun _ hk => hk.2))); (case aS => exact (Zag (bW))); (case aL => have := eM.out; omega); intro hu hE ho hb hg hat; rw [← eN.out] at ho; replace m := mA (Kd.R_overZ' (rP m.out) (Kd.Z_typed (by (with_reducible repeat (first | apply Kd.Z_alloc | apply Kd.Z_drewN | apply Kd.Z_drew)); exact B.out)) (by decide) hg); replace y := mA (Kd.R_overZ' (rP y.out) (Kd.Z_typed (by (with_reducible repeat (first | apply Kd.Z_alloc | apply Kd.Z_drewN | apply Kd.Z_drew)); exact B.out)) (by decide) hg); replace a := mA (Zaq (g := z) (o := .cells #[.int .i64 I, .int .i64 J, .slice X D.length U, .slice (some bN) u.length W] 48 (0, 0)) (bP a.out) hg (Kd.Z_ne B.out a.out (by decide))); replace q := mA (Zaq (g := E) (o := mobj Value.string (Value.int .i64) d) (bP q.out) hg (Kd.Z_nem B.out q.out)); replace aI := mA (Kd.Z_after (ok := (fun _ => True)) (by (with_reducible repeat (first | apply Kd.Z_alloc | apply Kd.Z_drewN | apply Kd.Z_drew)); exact aI.out) hg hat); replace HB := mA (hb); have eP := mA (ho); clear B ho hb hg hat))
          go_roundg k4
          case measure => have := ae.out; have := ar.out; have := au.out; have := aY.out; omega
          case rel => exact ⟨(fF), (wrap64 (A + 1)), (eW), H', ⟨by have := ae.out; have := ar.out; have := au.out; have := aY.out; omega⟩, ⟨by (try simp only [l]); exact rP m.out⟩, ⟨by (try simp only [l]); exact rP y.out⟩, ⟨by (try simp only [l]); (with_reducible repeat (first | apply Kd.Z_alloc | apply Kd.Z_drewN | apply Kd.Z_drew)); exact Kd.Z_mono eP.out (fun _ hk => trivial)⟩, ⟨by (try simp only [l]); exact bP a.out⟩, ⟨by (try simp only [l]); exact bP q.out⟩, ⟨bW⟩⟩
         rw [if_pos bh] at H
         have eL : decide (0 ≤ (rd (Zae u c) A)) = true := dT bh
         clear bh
         by_cases cQ : 0 ≤ (rd (Zae u c) A); rotate_left
         ·rw [if_neg cQ] at H
          exact absurd H (by simp)
         rw [if_pos cQ] at H
         have g1 := dT cQ
         clear cQ
         by_cases cR : (rd (Zae u c) A) < (s.length : Int); rotate_left
         ·rw [if_neg cR] at H
          exact absurd H (by simp)
         rw [if_pos cR] at H
         have eQ := dT cR
         (try (have eR := eQ; simp only [l] at eR))
         clear cR
         obtain ⟨bO, bQ⟩ : ∃ y_ : List Int, y_ = (([((rd s (rd (Zae u c) A)) / 256) % 256, (rd s (rd (Zae u c) A)) % 256] : List Int)) := ⟨_, rfl⟩
         replace H := bsm bQ H
         have cS := mA bQ
         clear bQ
         by_cases cT : T.length + bO.length < 140737488355328; rotate_left
         ·rw [if_neg cT] at H
          exact absurd H (by simp)
         rw [if_pos cT] at H
         have eS := mA cT
         clear cT
         obtain ⟨fJ, bR⟩ : ∃ y_ : List Int, y_ = (T ++ bO) := ⟨_, rfl⟩
         rw [← bR] at H
         have eT := mA bR
         clear bR
         have H' := mA H
         clear H
         have g2 := ab.out
         have g3 := ac.out
         have gh : wr.cell? ⟨z, 0, none⟩ = some (.int .i64 I) := bc a 0
         have gi : wr.cell? ⟨z, 1, none⟩ = some (.int .i64 J) := bc a 1
         have gj : wr.cell? ⟨z, 2, none⟩ = some (.slice X D.length U) := bc a 2
         have gl : wr.cell? ⟨z, 3, none⟩ = some (.slice Y u.length W) := bc a 3
         have gm := Zab a.out 0
         have gn := Zab a.out 1
         have gp := Zab a.out 2
         have gq := Zab a.out 3
         have aA : 0 ≤ (c : Int) := ofD
         have aC : c < (u.length : Int) := ofD
         obtain ⟨bN, d6, d7, ca, ag, an, ao⟩ := Zch cj.out c aA aC
         cases ca
         replace ag := (HB.out.cell (wB w ag)).trans ag
         have aV := mA ao
         have db := mA an
         clear ao an
         replace aA := eq_true aA
         replace aC := eq_true aC
         have aD : 0 ≤ (A : Int) := ofD
         have aE : A < ((Zae u c).length : Int) := ofD
         obtain ⟨eO, cb, ah⟩ := zI aV.out A aD aE
         cases cb
         replace ah := (HB.out.cell (wB w ah)).trans ah
         replace aD := eq_true aD
         replace aE := eq_true aE
         have cc : 0 ≤ ((rd (Zae u c) A) : Int) := ofD
         have cd : (rd (Zae u c) A) < (s.length : Int) := ofD
         obtain ⟨eU, fK, gr⟩ := zI (zE m.out).2.2 (rd (Zae u c) A) cc cd
         obtain rfl : ad = eU := (by injection fK)
         replace cc := eq_true cc
         replace cd := eq_true cd
         go_wp2_with (first | ((with_reducible refine Zap (N := 100) rfl ?_); refine Kd.Z_lit (Kd.int .u8) _ 5 ?hg (N := 100) ?hd (xs := ([((rd s (rd (Zae u c) A)) / 256) % 256, (rd s (rd (Zae u c) A)) % 256] : List Int)) (inner := [.int .u8 (((rd s (rd (Zae u c) A)) / 256) % 256), .int .u8 ((rd s (rd (Zae u c) A)) % 256)]) (ok := fun _ => True) (okp := fun _ => True) ?hr ?hp (fun _ hk => hk) trivial (Below.refl _ _) (Nat.le_refl _) (by simp) ?_; (case hd => rfl); (case hg => rfl); (case hr => first | (go_simp; done) | (go_simp; rfl)); (case hp => exact (Reps.one (show Kd.M (Kd.int .u8) _ _ _ (((rd s (rd (Zae u c) A)) / 256) % 256) [.int .u8 (((rd s (rd (Zae u c) A)) / 256) % 256)] from rfl) (Reps.one (show Kd.M (Kd.int .u8) _ _ _ ((rd s (rd (Zae u c) A)) % 256) [.int .u8 ((rd s (rd (Zae u c) A)) % 256)] from rfl) (Reps.none _ _)))); intro hv hF aX hb hg_ hnew_; clear hg_ hnew_; (first | rw [← cS.out] at aX | (simp only [Int.reduceToNat] at aX; rw [← cS.out] at aX)); replace m := mA (zK (rP m.out) hb); replace y := mA (zK (rP y.out) hb); have aJ := mA (Kd.Z_lower (Kd.Z_new' aX (Kd.Z_lt (by (with_reducible repeat (first | apply Kd.Z_alloc | apply Kd.Z_drewN | apply Kd.Z_drew)); exact B.out))) (Zag (bW))); replace B := mA (Kd.Z_elder' (by (with_reducible repeat (first | apply Kd.Z_alloc | apply Kd.Z_drewN | apply Kd.Z_drew)); exact B.out) (Kd.Z_base aX) hb); replace a := mA (blkB a.out hb); replace q := mA (blkB q.out hb); replace HB := mA (Zac (bW) hb); clear hb aX; obtain ⟨fL, fM, fN⟩ := Kd.Z_slice aJ.out; subst fN) | ((with_reducible refine Zbl (b := .append) (xs := #[.tmp 94, .tmp 100]) rfl ?_); at_builtin; refine Kd.Z_append_rows (Kd.int .u8) (w0 := w) w.heap.size rfl (.tmp 94) (.tmp 100) 95 5 (.int .u8 0) 1 rfl Tryd.underlying95 info5 rfl (by decide) (by omega) u11 T bO _ _ _ (fun k_ => some k_ ≠ (.slice fL bO.length fM : Value).ownBlock) (fun _ => False) rfl rfl ?aO ?aR (fun _ _ h => h) (fun _ h => h.elim) ?aF ?aB ?aS ?aL ?_; (case aR => exact cP ((Kd.Z_reads' aJ.out).2.2)); (case aB => exact (bW)); (case aF => exact (fun k_ hk => zT (Kd.Z_lt (by (with_reducible repeat (first | apply Kd.Z_alloc | apply Kd.Z_drewN | apply Kd.Z_drew)); exact aJ.out)) k_ hk)); (case aO => exact (by (with_reducible repeat (first | apply Kd.Z_alloc | apply Kd.Z_drewN | apply Kd.Z_drew)); exact Kd.Z_mono B.out (fun _ hk => hk.2))); (case aS => exact (Zag (bW))); (case aL => have := eS.out; omega); intro hx hG ho hb hg hat; rw [← eT.out] at ho; replace m := mA (Kd.R_overZ' (rP m.out) (Kd.Z_typed (by (with_reducible repeat (first | apply Kd.Z_alloc | apply Kd.Z_drewN | apply Kd.Z_drew)); exact B.out)) (by decide) hg); replace y := mA (Kd.R_overZ' (rP y.out) (Kd.Z_typed (by (with_reducible repeat (first | apply Kd.Z_alloc | apply Kd.Z_drewN | apply Kd.Z_drew)); exact B.out)) (by decide) hg); replace a := mA (Zaq (g := z) (o := .cells #[.int .i64 I, .int .i64 J, .slice X D.length U, .slice (some bN) u.length W] 48 (0, 0)) (bP a.out) hg (Kd.Z_ne B.out a.out (by decide))); replace q := mA (Zaq (g := E) (o := mobj Value.string (Value.int .i64) d) (bP q.out) hg (Kd.Z_nem B.out q.out)); replace aJ := mA (Kd.Z_after (ok := (fun _ => True)) (by (with_reducible repeat (first | apply Kd.Z_alloc | apply Kd.Z_drewN | apply Kd.Z_drew)); exact aJ.out) hg hat); replace HB := mA (hb); have eX := mA (ho); clear B ho hb hg hat))
         go_roundg k4
         case measure => have := ae.out; have := ar.out; have := au.out; have := aY.out; omega
         case rel => exact ⟨(fJ), (wrap64 (A + 1)), (eW), H', ⟨by have := ae.out; have := ar.out; have := au.out; have := aY.out; omega⟩, ⟨by (try simp only [l]); exact rP m.out⟩, ⟨by (try simp only [l]); exact rP y.out⟩, ⟨by (try simp only [l]); (with_reducible repeat (first | apply Kd.Z_alloc | apply Kd.Z_drewN | apply Kd.Z_drew)); exact Kd.Z_mono eX.out (fun _ hk => trivial)⟩, ⟨by (try simp only [l]); exact bP a.out⟩, ⟨by (try simp only [l]); exact bP q.out⟩, ⟨bW⟩⟩
end Go.Proofs.YtgindgodfcfgkaaDoor.P
end M0
