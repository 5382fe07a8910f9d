import Derived.Test.YtgindgodfcfgkaaDoorCFnExactIsClosed9
set_option maxHeartbeats 8000000
set_option maxRecDepth 100000
section M0
namespace Go.Proofs.YtgindgodfcfgkaaDoor.P
open Go.RowKit Go.Proofs.YtgindgodfcfgkaaDoor.Sh Go.Proofs.YtgindgodfcfgkaaDoorW.PrintWords Go.Proofs.YtgindgodfcfgkaaDoorW.PrintLast Go.Proofs.YtgindgodfcfgkaaDoorW.PrintMore
open Kd
attribute [local go_sem] Zcp Zcq Zc0 Zcy Zcf Zcg Zcr Zcs   -- for this text's walks alone
set_option linter.unusedVariables false
set_option linter.unusedSimpArgs false
def Zds.f (k : Nat) (b : Int) (c : List Int) (d : Int) (e : Int) (g : Int) (h : List (List Int)) : Option (Bool) := (Zdp.f k d e g h).bind fun a => ((Zau.f k b c a.1 a.2.1 a.2.2.1 a.2.2.2).bind fun i => (some ((i.length : Int) == 0)))
theorem Zds.calls (k : Nat) (j : Int) (q : Option Addr) (s : Nat) (c : List Int) (l : Int) (m : Int) (o : Int) (u : Option Addr) (v : Nat) (d : List (List Int)) (r : Bool) (w : World) (G : Kd.C (Kd.int .i64) w q c.length c) (I : c.length ≤ s) (J : Kd.C (Kd.slice 2 (Kd.int .i64)) w u d.length d) (L : d.length ≤ v) (h : Zds.f k j c l m o d = some r) :
  Calls Tryd.prog 18 #[.agg #[.int .i64 j, .slice q c.length s], .agg #[.int .i64 l, .int .i64 m, .int .i64 o, .slice u d.length v]] w fun e w' => e = .returned (.bool r) ∧ Below w.heap.size w w' := by
 have an := Tryd.underlying32
 have ao := Tryd.underlying34
 have W := mA G
 have X := mA I
 clear G I
 have Y := mA J
 have aa := mA L
 clear J L
 have HB := mA (Below.refl w.heap.size w)
 unfold Zds.f at h
 have H := h
 clear h
 replace H := bE H
 obtain ⟨⟨A, B, D, E⟩, A30, H⟩ := H
 try dsimp only at H
 have A3 := mA A30
 clear A30
 replace H := bE H
 obtain ⟨ag, ac, H⟩ := H
 have A4 := mA ac
 clear ac
 obtain rfl := oI H
 go_enter Tryd.func18, Tryd.ntmps18
 try go_wp2_with (first | ((with_reducible refine Zao (N := 2) rfl ?_); refine boxS (N := 2) (cs := #[.int .i64 j, .slice q c.length s]) (t := 32) ?_; intro M hg w5 hbox hb; have b := mA (hbox); have aj := geW (w := w) hg; have ak := geW (w := w) hg; replace HB := mA (Zac (bW) hb); clear hb hbox hg) | ((with_reducible refine Zao (N := 3) rfl ?_); refine boxS (N := 3) (cs := #[.int .i64 l, .int .i64 m, .int .i64 o, .slice u d.length v]) (t := 34) ?_; intro p hg w6 hbox hb; have a := mA (hbox); have al := geW (w := w) hg; have am := geW (w := w) hg; replace HB := mA (Zac (bW) hb); have ad := mA (neB hg b); have ae := mA (neC hg b); replace b := mA (blkB b.out hb); clear hb hbox hg))
 replace b := mA (Zad b.out)
 replace a := mA (Zad a.out)
 replace HB := mA (Zax HB.out)
 refine Zcd (n := 7) (S := fun w' => w'.cell? ⟨M, 0, none⟩ = some (.int .i64 j) ∧ w'.cell? ⟨M, 1, none⟩ = some (.slice q c.length s) ∧ w'.cell? ⟨p, 0, none⟩ = some (.int .i64 l) ∧ w'.cell? ⟨p, 1, none⟩ = some (.int .i64 m) ∧ w'.cell? ⟨p, 2, none⟩ = some (.int .i64 o) ∧ w'.cell? ⟨p, 3, none⟩ = some (.slice u d.length v)) (ds := []) #[false, false, false, false, false, false, false] (by kernel_rfl) rfl rfl ⟨bc b 0, bc b 1, bc a 0, bc a 1, bc a 2, bc a 3⟩ (fun hHeld => ?_)
 generalize w6.drew = w7 at b a HB hHeld ⊢
 refine Za7 (i := 0) (N := some 5) (by kernel_rfl) hHeld ?_
 refine Za7 (i := 1) (N := some 6) (by kernel_rfl) hHeld ?_
 refine one_ (i := 2) (N := some 7) #[true, true, true, false, false, false, false] rfl rfl (by kernel_rfl) (by decide) (fun K hK => ?_)
 refine Zb0 Tryd.func26 (by kernel_rfl) rfl #[.agg #[.int .i64 l, .int .i64 m, .int .i64 o, .slice u d.length v]] (by rfl) rfl rfl (by (try simp only [List.map_toArray, List.map_cons, List.map_nil]); first | done | rfl | (simp only [List.length_drop, List.length_take]; rfl)) ?_
 with_reducible refine (Zdp.calls k l m o _ _ d A B D E _ ?side1 ?side2 A3.out).mono ?_
 (case side1 => exact cP (zE Y.out HB.out))
 (case side2 => exact aa.out)
 rintro e w8 ⟨ap, rfl, x, hb⟩
 refine ⟨_, rfl, ?_⟩
 have g := mA (xO x (Zah (bW)))
 replace b := mA (blkB b.out hb)
 replace a := mA (blkB a.out hb)
 replace HB := mA (Zac (bW) hb)
 (try clear hb)
 (try clear hb2)
 (try clear hk)
 (try clear hi)
 (try clear x)
 obtain ⟨ah, ai, af⟩ := xC g.out
 (first | subst af | (injection af with y O z; have P := y.symm; have T := z.symm; clear y O z; subst P; subst T))
 refine hK.out _ _ ⟨bc b 0, bc b 1, bc a 0, bc a 1, bc a 2, bc a 3⟩ (fun hHeld => ?_)
 clear hK K
 refine putS 7 ?_
 refine one_ (i := 3) (N := some 8) #[true, true, true, true, false, false, false] rfl rfl (by kernel_rfl) (by decide) (fun K hK => ?_)
 refine Zb0 Tryd.func38 (by kernel_rfl) rfl #[.agg #[.int .i64 j, .slice q c.length s], .agg #[.int .i64 A, .int .i64 B, .int .i64 D, .slice ah E.length ai]] (by rfl) rfl rfl (by (try simp only [List.map_toArray, List.map_cons, List.map_nil]); first | done | rfl | (simp only [List.length_drop, List.length_take]; rfl)) ?_
 with_reducible refine (Zau.calls k j _ _ c A B D _ _ E ag _ ?side1 ?side2 ?side3 ?side4 A4.out).mono ?_
 (case side1 => exact cP (zE W.out HB.out))
 (case side2 => exact X.out)
 (case side3 => exact cP ((xA g.out).2.2))
 (case side4 => exact (xA g.out).2.1)
 rintro e av ⟨aq, rfl, x, hb⟩
 refine ⟨_, rfl, ?_⟩
 replace g := mA (xJ (sP g.out) (zK x) hb)
 have ab := mA (zN x (Zah (bW)))
 replace b := mA (blkB b.out hb)
 replace a := mA (blkB a.out hb)
 replace HB := mA (Zac (bW) hb)
 (try clear hb)
 (try clear hb2)
 (try clear hk)
 (try clear hi)
 (try clear x)
 obtain ⟨ar, au, U⟩ := zJ ab.out
 (first | subst U | (injection U with y O z; have P := y.symm; have T := z.symm; clear y O z; subst P; subst T))
 refine hK.out _ _ ⟨bc b 0, bc b 1, bc a 0, bc a 1, bc a 2, bc a 3⟩ (fun hHeld => ?_)
 clear hK K
 refine putS 8 ?_
 refine Zaq (i := 4) (N := some 9) (by kernel_rfl) ?_
 refine Zaq (i := 5) (N := some 10) (by kernel_rfl) ?_
 refine Zaq (i := 6) (N := some 4) (by kernel_rfl) ?_
 refine Zcx (by kernel_rfl) ?_
 try go_wp2
 go_ret
 exact ⟨eW, bW⟩
def Zdq.f (k : Nat) (a : Int) (b : List Int) (c : Int) (d : Int) (e : Int) (g : List (List Int)) : Option (Bool × Int) := (Zca.f k a b c d e g).bind fun h => (if h = 0 then ((Zds.f k a b c d e g).bind fun i => (some (i, 0))) else (some (false, h)))
theorem Zdq.calls (k : Nat) (g : Int) (o : Option Addr) (p : Nat) (c : List Int) (i : Int) (j : Int) (l : Int) (q : Option Addr) (r : Nat) (d : List (List Int)) (r1 : Bool) (r2 : Int) (w : World) (z : Kd.C (Kd.int .i64) w o c.length c) (A : c.length ≤ p) (B : Kd.C (Kd.slice 2 (Kd.int .i64)) w q d.length d) (D : d.length ≤ r) (h : Zdq.f k g c i j l d = some (r1, r2)) :
  Calls Tryd.prog 7 #[.agg #[.int .i64 g, .slice o c.length p], .agg #[.int .i64 i, .int .i64 j, .int .i64 l, .slice q d.length r]] w fun e w' => e = .returned (.tuple #[.bool r1, .int .i64 r2]) ∧ Below w.heap.size w w' := by
 have aL := Tryd.underlying32
 have aM := Tryd.underlying34
 have u := mA z
 have v := mA A
 clear z A
 have x := mA B
 have y := mA D
 clear B D
 have HB := mA (Below.refl w.heap.size w)
 unfold Zdq.f at h
 have H := h
 clear h
 replace H := bE H
 obtain ⟨s, M, H⟩ := H
 have A3 := mA M
 clear M
 by_cases c4 : s = 0; rotate_left
 ·rw [if_neg c4] at H
  have P : (s == 0) = false := beq_eq_false_iff_ne.mpr c4
  have T : (s != 0) = true := bne_iff_ne.mpr c4
  simp only [Option.some.injEq, Prod.mk.injEq] at H
  obtain ⟨rfl, rfl⟩ := H
  go_enter Tryd.func7, Tryd.ntmps7
  go_wp2_with (first | ((with_reducible refine Zao (N := 2) rfl ?_); refine boxS (N := 2) (cs := #[.int .i64 g, .slice o c.length p]) (t := 32) ?_; intro E hg aP hbox hb; have a := mA (hbox); have G := geW (w := w) hg; have I := geW (w := w) hg; replace HB := mA (Zac (bW) hb); clear hb hbox hg) | ((with_reducible refine Zao (N := 3) rfl ?_); refine boxS (N := 3) (cs := #[.int .i64 i, .int .i64 j, .int .i64 l, .slice q d.length r]) (t := 34) ?_; intro J hg aQ hbox hb; have b := mA (hbox); have K := geW (w := w) hg; have L := geW (w := w) hg; replace HB := mA (Zac (bW) hb); have m := mA (neB hg a); have n := mA (neC hg a); replace a := mA (blkB a.out hb); clear hb hbox hg; have aJ := m.out; have aK := n.out; obtain ⟨W, X⟩ := Zc7 a.out; obtain ⟨Y, aa⟩ := frz2 a.out; obtain ⟨ab, ac, ad, ae⟩ := Zbj b.out; obtain ⟨af, ag, ah, ai⟩ := frz4 b.out) | ((with_reducible refine Zaw (f := 17) rfl ?_); refine Zbq (some 9) Tryd.func17 #[.agg #[.int .i64 g, .slice o c.length p], .agg #[.int .i64 i, .int .i64 j, .int .i64 l, .slice q d.length r]] ?_; (with_reducible refine (Zca.calls k g _ _ c i j l _ _ d s _ ?side1 ?side2 ?side3 ?side4 A3.out).mono ?_); (case side1 => exact cP (zE u.out HB.out)); (case side2 => exact v.out); (case side3 => exact cP (zE x.out HB.out)); (case side4 => exact y.out); rintro e aR ⟨rfl, hb⟩; refine ⟨_, rfl, ?_⟩; replace a := mA (blkB a.out hb); replace b := mA (blkB b.out hb); replace HB := mA (Zac (bW) hb); (try clear hb); (try clear hb2); (try clear hk); (try clear hi)))
  go_ret2
  exact ⟨eW, bW⟩
 rw [if_pos c4] at H
 have P : (s == 0) = true := beq_iff_eq.mpr c4
 have T : (s != 0) = false := bne_eq_false_iff_eq.mpr c4
 clear c4
 replace H := bE H
 obtain ⟨U, O, H⟩ := H
 have A5 := mA O
 clear O
 simp only [Option.some.injEq, Prod.mk.injEq] at H
 obtain ⟨rfl, rfl⟩ := H
 go_enter Tryd.func7, Tryd.ntmps7
 go_wp2_with (first | ((with_reducible refine Zao (N := 2) rfl ?_); refine boxS (N := 2) (cs := #[.int .i64 g, .slice o c.length p]) (t := 32) ?_; intro E hg w6 hbox hb; have a := mA (hbox); have G := geW (w := w) hg; have I := geW (w := w) hg; replace HB := mA (Zac (bW) hb); clear hb hbox hg) | ((with_reducible refine Zao (N := 3) rfl ?_); refine boxS (N := 3) (cs := #[.int .i64 i, .int .i64 j, .int .i64 l, .slice q d.length r]) (t := 34) ?_; intro J hg w7 hbox hb; have b := mA (hbox); have K := geW (w := w) hg; have L := geW (w := w) hg; replace HB := mA (Zac (bW) hb); have m := mA (neB hg a); have n := mA (neC hg a); replace a := mA (blkB a.out hb); clear hb hbox hg; have aN := m.out; have aO := n.out; obtain ⟨aF, aG⟩ := Zc7 a.out; obtain ⟨aH, aI⟩ := frz2 a.out; obtain ⟨aj, ak, al, am⟩ := Zbj b.out; obtain ⟨an, ao, ap, aq⟩ := frz4 b.out) | ((with_reducible refine Zaw (f := 17) rfl ?_); refine Zbq (some 9) Tryd.func17 #[.agg #[.int .i64 g, .slice o c.length p], .agg #[.int .i64 i, .int .i64 j, .int .i64 l, .slice q d.length r]] ?_; (with_reducible refine (Zca.calls k g _ _ c i j l _ _ d s _ ?side1 ?side2 ?side3 ?side4 A3.out).mono ?_); (case side1 => exact cP (zE u.out HB.out)); (case side2 => exact v.out); (case side3 => exact cP (zE x.out HB.out)); (case side4 => exact y.out); rintro e aS ⟨rfl, hb⟩; refine ⟨_, rfl, ?_⟩; replace a := mA (blkB a.out hb); replace b := mA (blkB b.out hb); replace HB := mA (Zac (bW) hb); (try clear hb); (try clear hb2); (try clear hk); (try clear hi); obtain ⟨ar, au⟩ := Zc7 a.out; obtain ⟨av, aw⟩ := frz2 a.out; obtain ⟨ax, ay, az, aA⟩ := Zbj b.out; obtain ⟨aB, aC, aD, aE⟩ := frz4 b.out) | ((with_reducible refine Zaw (f := 18) rfl ?_); refine Zbq (some 15) Tryd.func18 #[.agg #[.int .i64 g, .slice o c.length p], .agg #[.int .i64 i, .int .i64 j, .int .i64 l, .slice q d.length r]] ?_; (with_reducible refine (Zds.calls k g _ _ c i j l _ _ d U _ ?side1 ?side2 ?side3 ?side4 A5.out).mono ?_); (case side1 => exact cP (zE u.out HB.out)); (case side2 => exact v.out); (case side3 => exact cP (zE x.out HB.out)); (case side4 => exact y.out); rintro e aT ⟨rfl, hb⟩; refine ⟨_, rfl, ?_⟩; replace a := mA (blkB a.out hb); replace b := mA (blkB b.out hb); replace HB := mA (Zac (bW) hb); (try clear hb); (try clear hb2); (try clear hk); (try clear hi)))
 go_ret2
 exact ⟨eW, bW⟩
def Zbv.l0 : Nat → List Int → List Int → Int → Option (List Int)
 | 0, _, _, _ => none
 | k + 1, x0, x3, x4 => if x4 < (x0.length : Int) then (if 0 ≤ x4 then (if x4 < (x3.length : Int) then (Zbv.l0 k x0 (x3.set (x4 : Int).toNat (rd x0 x4)) (wrap64 (x4 + 1))) else (none)) else (none)) else (some x3)
def Zbv.f (k : Nat) (l0 : List Int) : Option (List Int) := if 0 ≤ (l0.length : Int) then (if ((l0.length : Int) : Int).toNat ≤ 35184372088832 then (Zbv.l0 k l0 (List.replicate ((l0.length : Int) : Int).toNat 0) 0) else (none)) else (none)
theorem Zbv.calls (k : Nat) (A0 : Option Addr) (c0 : Nat) (l0 : List Int) (r : List Int) (w : World) (y : Kd.C (Kd.int .i64) w A0 l0.length l0) (z : l0.length ≤ c0) (h : Zbv.f k l0 = some r) :
  Calls Tryd.prog 19 #[.slice A0 l0.length c0] w fun e w' => ∃ A : Value, e = .returned (A) ∧ Kd.R (Kd.int .i64) 2 w' w.heap.size (fun _ => True) A r ∧ Below w.heap.size w w' := by
 have U := mA y
 have af := mA z
 clear y z
 have HB := mA (Below.refl w.heap.size w)
 unfold Zbv.f at h
 have H := h
 clear h
 by_cases c2 : 0 ≤ (l0.length : Int); rotate_left
 ·rw [if_neg c2] at H
  exact absurd H (by simp)
 rw [if_pos c2] at H
 have I := eq_true c2
 have J := dT c2
 clear c2
 by_cases c3 : ((l0.length : Int) : Int).toNat ≤ 35184372088832; rotate_left
 ·rw [if_neg c3] at H
  exact absurd H (by simp)
 rw [if_pos c3] at H
 have K := eq_true c3
 have L := dT c3
 clear c3
 obtain ⟨M, g⟩ : ∃ y_ : List Int, y_ = (List.replicate ((l0.length : Int) : Int).toNat 0) := ⟨_, rfl⟩
 rw [← g] at H
 have o := mA g
 clear g
 have H' := mA H
 clear H
 go_enter Tryd.func19, Tryd.ntmps19
 go_wp2_with (first | ((with_reducible refine Zao (N := 7) rfl ?_); refine xI (Kd.int .i64) _ 2 rfl (N := 7) rfl 22 _ _ rfl (l0.length : Int) rfl rfl Tryd.underlying22 (.int .i64 0) 8 info2 rfl (by decide) (by omega) 0 (ok := fun _ => True) (okp := fun _ => True) rfl (fun _ hk => hk) trivial (ofD) (Nat.le_trans (Nat.mul_le_mul_right _ (ofD : (l0.length : Int).toNat ≤ 35184372088832)) (by omega)) (Below.refl _ _) (Nat.le_refl _) ?_; intro O w4 j hb hg_ hnew_; clear hg_ hnew_; (first | rw [← o.out] at j | (simp only [Int.reduceToNat] at j; rw [← o.out] at j)); have v := mA (zN j (Zah (bW))); replace HB := mA (Zac (bW) hb); clear hb j))
 go_loopg [4] k (fun kq v4 w' => ∃ (b : List Int) (a : Int), v4 = .int .i64 a ∧ Zaa (Zbv.l0 kq l0 b a = some r) ∧ Zaa (kq ≤ k) ∧ Zaa (Kd.R (Kd.int .i64) 2 w' w.heap.size (fun _ => True) O b) ∧ Zaa (Below w.heap.size w w'))
 case atStart => exact ⟨(M), (0), (eW), H', ⟨Nat.le_refl _⟩, ⟨rP v.out⟩, ⟨bW⟩⟩
 case round =>
  clear H' I J K L
  obtain ⟨b, a, rfl, HA, B, c, HB⟩ := hrel
  cases gk with
  | zero => exact absurd HA.out (by simp [Zbv.l0])
  | succ k1 =>
   have H := HA.out
   clear HA
   simp only [Zbv.l0] at H
   by_cases c6 : a < (l0.length : Int); rotate_left
   ·rw [if_neg c6] at H
    have P := dF c6
    clear c6
    obtain rfl := oI H
    go_wp2
    go_ret
    exact ⟨_, eW, (rP c.out), bW⟩
   rw [if_pos c6] at H
   have P := dT c6
   clear c6
   by_cases c7 : 0 ≤ a; rotate_left
   ·rw [if_neg c7] at H
    exact absurd H (by simp)
   rw [if_pos c7] at H
   have ad := dT c7
   clear c7
   by_cases c8 : a < (b.length : Int); rotate_left
   ·rw [if_neg c8] at H
    exact absurd H (by simp)
   rw [if_pos c8] at H
   have ae := dT c8
   clear c8
   obtain ⟨q, i⟩ : ∃ y_ : List Int, y_ = (b.set (a : Int).toNat (rd l0 a)) := ⟨_, rfl⟩
   rw [← i] at H
   have x := mA i
   clear i
   have H' := mA H
   clear H
   have l : 0 ≤ (a : Int) := ofD
   have m : a < (l0.length : Int) := ofD
   obtain ⟨aa, T, d⟩ := zH U.out a l m
   cases T
   replace d := (HB.out.cell (wB w d)).trans d
   replace l := eq_true l
   replace m := eq_true m
   have p9 : 0 ≤ (a : Int) := ofD
   have q9 : (a : Int) < ((b.length : Int) : Int) := ofD
   obtain ⟨s, W, D, E, X, ag, G⟩ := yI c.out (by omega)
   (first | cases D | (injection D with ea_ en_ ec_; (first | subst ea_ | (injection ea_ with ea_; subst ea_)); subst ec_; clear en_))
   have Y := mA E
   have ah := mA G
   clear E X G
   obtain ⟨ab, ac⟩ := yC 0 c.out (a : Int) p9 q9
   replace p9 := eq_true p9
   replace q9 := eq_true q9
   have n := yG c.out (a : Int) (rd l0 a)
   go_wp2_with (first | ((with_reducible refine Zbp (t := 2) (p := 20) rfl ?_); refine Zdk (t := 2) (p := 20) (w1 := (wr.setCell ⟨s, (a : Int).toNat, none⟩ (.int .i64 (rd l0 a)))) ?_; intro u hw; have hg : wr.grownBy u (some s) := (by rw [hw]; exact n.2); have hp_ : Kd.R (Kd.int .i64) 2 u w.heap.size (fun _ => True) (.slice (some ⟨s, 0, none⟩) b.length W) q := (by rw [hw, x.out]; exact n.1); clear n; replace c := mA (hp_); replace HB := mA ((by rw [hw]; exact Zbr (HB.out) Y.out : Below w.heap.size w u)); clear hg hw hp_))
   go_roundg k1
   case measure => have := B.out; omega
   case rel => exact ⟨(q), (wrap64 (a + 1)), (eW), H', ⟨by have := B.out; omega⟩, ⟨rP c.out⟩, ⟨bW⟩⟩
def Zcj.f (k : Nat) (a : Int) (b : List Int) : Option (Int × List Int) := (Zbv.f k b).bind fun c => (some (a, c))
theorem Zcj.calls (k : Nat) (i : Int) (n : Option Addr) (q : Nat) (c : List Int) (r1 : Int) (r2 : List Int) (w : World) (A : Kd.C (Kd.int .i64) w n c.length c) (B : c.length ≤ q) (h : Zcj.f k i c = some (r1, r2)) :
  Calls Tryd.prog 8 #[.agg #[.int .i64 i, .slice n c.length q]] w fun e w' => ∃ K : Value, e = .returned (.agg #[.int .i64 r1, K]) ∧ Kd.R (Kd.int .i64) 2 w' w.heap.size (fun _ => True) K r2 ∧ Below w.heap.size w w' := by
 have aq := Tryd.underlying24
 have ar := Tryd.underlying32
 have G := mA A
 have I := mA B
 clear A B
 have HB := mA (Below.refl w.heap.size w)
 unfold Zcj.f at h
 have H := h
 clear h
 replace H := bE H
 obtain ⟨r, L, H⟩ := H
 have A2 := mA L
 clear L
 simp only [Option.some.injEq, Prod.mk.injEq] at H
 obtain ⟨rfl, rfl⟩ := H
 go_enter Tryd.func8, Tryd.ntmps8
 go_wp2_with (first | ((with_reducible refine Zao (N := 1) rfl ?_); refine boxS (N := 1) (cs := #[.int .i64 i, .slice n c.length q]) (t := 24) ?_; intro J hg w3 hbox hb; have a := mA (hbox); have ak := geW (w := w) hg; have al := geW (w := w) hg; replace HB := mA (Zac (bW) hb); clear hb hbox hg) | ((with_reducible refine Zao (N := 2) rfl ?_); refine boxS (N := 2) (cs := #[.int .i64 0, .slice none 0 0]) (t := 32) ?_; intro m hg w4 hbox hb; have b := mA (hbox); have am := geW (w := w) hg; have an := geW (w := w) hg; replace HB := mA (Zac (bW) hb); have s := mA (neB hg a); have u := mA (neC hg a); replace a := mA (blkB a.out hb); clear hb hbox hg) | ((with_reducible refine Zao (N := 3) rfl ?_); refine boxS (N := 3) (cs := #[.int .i64 0, .slice none 0 0]) (t := 32) ?_; intro D hg w5 hbox hb; have d := mA (hbox); have ao := geW (w := w) hg; have ap := geW (w := w) hg; replace HB := mA (Zac (bW) hb); have l := mA (neB hg a); have v := mA (neC hg a); replace a := mA (blkB a.out hb); have j := mA (neB hg b); have x := mA (neC hg b); replace b := mA (blkB b.out hb); clear hb hbox hg; have au := s.out; have av := u.out; have aw := l.out; have ax := v.out; obtain ⟨ag, ah⟩ := Zc7 a.out; obtain ⟨ai, aj⟩ := frz2 a.out; have ay := x.out; have az := j.out; obtain ⟨P, T⟩ := Zc7 d.out; obtain ⟨U, W⟩ := frz2 d.out) | ((with_reducible refine Zaw (f := 19) rfl ?_); refine Zbq (some 9) Tryd.func19 #[.slice n c.length q] ?_; (with_reducible refine (Zbv.calls k _ _ c r _ ?side1 ?side2 A2.out).mono ?_); (case side1 => exact zE G.out (bW)); (case side2 => exact I.out); rintro e aB ⟨aA, rfl, M, hb⟩; refine ⟨_, rfl, ?_⟩; have E := mA (zN M (Zah (bW))); replace a := mA (Zdl (g := J) (o := .cells #[.int .i64 i, .slice n c.length q] 24 (0, 0)) (by (with_reducible repeat (first | refine Zaj ?_ _ | refine Zad ?_ | refine Zae ?_ _)); refine Za5 ?_ l.out _; exact bP a.out) hb); replace b := mA (Zdl (g := m) (o := .cells #[.int .i64 0, .slice none 0 0] 32 (0, 0)) (by (with_reducible repeat (first | refine Zaj ?_ _ | refine Zad ?_ | refine Zae ?_ _)); refine Za5 ?_ j.out _; exact bP b.out) hb); replace d := mA (Zdl (g := D) (o := .cells #[.int .i64 i, .slice none 0 0] 32 (0, 0)) (by (with_reducible repeat (first | refine Zaj ?_ _ | refine Zad ?_ | refine Zae ?_ _)); refine Za2 (cs := #[.int .i64 0, .slice none 0 0]) ?_ 0 _ rfl; exact bP d.out) hb); replace HB := mA (Zac (bW) hb); (try clear hb); (try clear hb2); (try clear hk); (try clear hi); (try clear M); obtain ⟨y, z, O⟩ := zJ E.out; subst O; obtain ⟨X, Y⟩ := Zc7 d.out; obtain ⟨aa, ab⟩ := frz2 d.out; obtain ⟨ac, ad⟩ := Zc7 b.out; obtain ⟨ae, af⟩ := frz2 b.out))
 refine bodyPost_ret (results_cell_row rfl _ _ m 32 #[.int .i64 i, .slice y r.length z] (0, 0) _ rfl (by (with_reducible repeat (first | refine Zaj ?_ _ | refine Zad ?_ | refine Zae ?_ _)); refine Za2 (cs := #[.int .i64 i, .slice none 0 0]) ?_ 1 _ rfl; (with_reducible repeat (first | refine Zaj ?_ _ | refine Zad ?_ | refine Zae ?_ _)); refine Za2 (cs := #[.int .i64 0, .slice none 0 0]) ?_ 0 _ rfl; (with_reducible repeat (first | refine Zaj ?_ _ | refine Zad ?_ | refine Zae ?_ _)); refine Za5 ?_ j.out _; exact bP b.out) Tryd.underlying32 rfl (by kernel_rfl)) rfl ?_
 exact ⟨_, eW, by (with_reducible repeat (first | apply zC | apply zD | apply zB)); exact zA (zM (p := ⟨m, 1, none⟩) (zM (p := ⟨m, 0, none⟩) (zM (p := ⟨D, 1, none⟩) (zV (zV E.out d.out (by decide)) b.out (by decide)) (fun _ hk => hk.1.2) (.slice y r.length z)) (fun _ hk => hk.2) (.int .i64 i)) (fun _ hk => hk.2) (.slice y r.length z)) (fun _ hk => trivial), bW⟩
def Zb1.l0 : Nat → List (List Int) → List (List Int) → Int → Option ((List (List Int)))
 | 0, _, _, _ => none
 | k + 1, x0, x3, x4 => if x4 < (x0.length : Int) then (if 0 ≤ x4 then ((Zbv.f k (Zag x0 x4)).bind fun a => (if x4 < (x3.length : Int) then (Zb1.l0 k x0 (x3.set (x4 : Int).toNat a) (wrap64 (x4 + 1))) else (none))) else (none)) else (some x3)
def Zb1.f (k : Nat) (l0 : List (List Int)) : Option ((List (List Int))) := if 0 ≤ (l0.length : Int) then (if ((l0.length : Int) : Int).toNat ≤ 11728124029610 then (Zb1.l0 k l0 (List.replicate ((l0.length : Int) : Int).toNat []) 0) else (none)) else (none)
theorem Zb1.calls (k : Nat) (A0 : Option Addr) (c0 : Nat) (l0 : List (List Int)) (r : List (List Int)) (w : World) (ao : Kd.C (Kd.slice 2 (Kd.int .i64)) w A0 l0.length l0) (ap : l0.length ≤ c0) (h : Zb1.f k l0 = some r) :
  Calls Tryd.prog 20 #[.slice A0 l0.length c0] w fun e w' => ∃ aq : Value, e = .returned (aq) ∧ Kd.S (Kd.slice 2 (Kd.int .i64)) 22 w' w.heap.size (fun _ => True) aq r ∧ Below w.heap.size w w' := by
 have aH := mA ao
 have aW := mA ap
 clear ao ap
 have HB := mA (Below.refl w.heap.size w)
 unfold Zb1.f at h
 have H := h
 clear h
 by_cases c2 : 0 ≤ (l0.length : Int); rotate_left
 ·rw [if_neg c2] at H
  exact absurd H (by simp)
 rw [if_pos c2] at H
 have av := eq_true c2
 have aw := dT c2
 clear c2
 by_cases c3 : ((l0.length : Int) : Int).toNat ≤ 11728124029610; rotate_left
 ·rw [if_neg c3] at H
  exact absurd H (by simp)
 rw [if_pos c3] at H
 have ax := eq_true c3
 have ay := dT c3
 clear c3
 obtain ⟨az, n⟩ : ∃ y_ : List (List Int), y_ = (List.replicate ((l0.length : Int) : Int).toNat []) := ⟨_, rfl⟩
 rw [← n] at H
 have A := mA n
 clear n
 have H' := mA H
 clear H
 go_enter Tryd.func20, Tryd.ntmps20
 go_wp2_with (first | ((with_reducible refine Zao (N := 7) rfl ?_); refine Kd.S_make (Kd.slice 2 (Kd.int .i64)) _ 22 rfl (N := 7) rfl 25 _ _ rfl (l0.length : Int) rfl rfl Tryd.underlying25 (.slice none 0 0) 24 info22 rfl (by decide) (by omega) [] (ok := fun _ => True) (okp := fun _ => True) ⟨_, rfl, yU _ _ _ _ _⟩ (fun _ hk => hk) trivial (ofD) (Nat.le_trans (Nat.mul_le_mul_right _ (ofD : (l0.length : Int).toNat ≤ 11728124029610)) (by omega)) (Below.refl _ _) (Nat.le_refl _) ?_; intro aA w4 u hb hg_ hnew_; clear hg_ hnew_; (first | rw [← A.out] at u | (simp only [Int.reduceToNat] at u; rw [← A.out] at u)); have ak := mA (xO u (Zah (bW))); replace HB := mA (Zac (bW) hb); clear hb u))
 go_loopg [4] k (fun kq v4 w' => ∃ (c : List (List Int)) (a : Int), v4 = .int .i64 a ∧ Zaa (Zb1.l0 kq l0 c a = some r) ∧ Zaa (kq ≤ k) ∧ Zaa (Kd.S (Kd.slice 2 (Kd.int .i64)) 22 w' w.heap.size (fun _ => True) aA c) ∧ Zaa (Below w.heap.size w w'))
 case atStart => exact ⟨(az), (0), (eW), H', ⟨Nat.le_refl _⟩, ⟨sP ak.out⟩, ⟨bW⟩⟩
 case round =>
  clear H' av aw ax ay
  obtain ⟨c, a, rfl, HA, ar, b, HB⟩ := hrel
  cases gk with
  | zero => exact absurd HA.out (by simp [Zb1.l0])
  | succ k1 =>
   have H := HA.out
   clear HA
   simp only [Zb1.l0] at H
   by_cases c6 : a < (l0.length : Int); rotate_left
   ·rw [if_neg c6] at H
    have aB := dF c6
    clear c6
    obtain rfl := oI H
    go_wp2
    go_ret
    exact ⟨_, eW, (sP b.out), bW⟩
   rw [if_pos c6] at H
   have aB := dT c6
   clear c6
   by_cases c7 : 0 ≤ a; rotate_left
   ·rw [if_neg c7] at H
    exact absurd H (by simp)
   rw [if_pos c7] at H
   have aO := dT c7
   clear c7
   replace H := bE H
   obtain ⟨x, au, H⟩ := H
   have A8 := mA au
   clear au
   by_cases c9 : a < (c.length : Int); rotate_left
   ·rw [if_neg c9] at H
    exact absurd H (by simp)
   rw [if_pos c9] at H
   have aP := dT c9
   clear c9
   obtain ⟨K, o⟩ : ∃ y_ : List (List Int), y_ = (c.set (a : Int).toNat x) := ⟨_, rfl⟩
   rw [← o] at H
   have al := mA o
   clear o
   have H' := mA H
   clear H
   have y : 0 ≤ (a : Int) := ofD
   have z : a < (l0.length : Int) := ofD
   obtain ⟨aM, L, M, aC, d, l, m⟩ := Zcu aH.out a y z
   cases aC
   replace d := (HB.out.cell (wB w d)).trans d
   have I := mA m
   have J := mA l
   clear m l
   replace y := eq_true y
   replace z := eq_true z
   go_wp2_with (first | ((with_reducible refine Zaw (f := 19) rfl ?_); refine Zbq (some 20) Tryd.func19 #[.slice L (Zag l0 a).length M] ?_; (with_reducible refine (Zbv.calls k1 _ _ (Zag l0 a) x _ ?side1 ?side2 A8.out).mono ?_); (case side1 => exact cP (zE I.out HB.out)); (case side2 => exact J.out); rintro e O ⟨q, rfl, P, hb⟩; refine ⟨_, rfl, ?_⟩; replace b := mA (xJ (sP b.out) (zK P) hb); have i := mA (zN P (Zah (bW))); replace HB := mA (Zac (bW) hb); (try clear hb); (try clear hb2); (try clear hk); (try clear hi); (try clear P); have T : 0 ≤ (a : Int) := ofD; have U : (a : Int) < ((c.length : Int) : Int) := ofD; obtain ⟨g, W, X, Y, aD, aQ, aa⟩ := Kd.S_form b.out (by omega); (first | cases X | (injection X with ea_ en_ ec_; (first | subst ea_ | (injection ea_ with ea_; subst ea_)); subst ec_; clear en_)); have aE := mA Y; have aR := mA aa; clear Y aD aa; obtain ⟨_, aS, am, ab, B, D, _, _⟩ := Kd.S_elem b.out [] (a : Int) T U; obtain ⟨aI, rfl, aJ⟩ := ab; have ac := B 0 _ rfl; have ad := D 0; (try simp only [show ((Kd.slice 2 (Kd.int .i64))).sz = 1 from rfl, Nat.mul_one, Nat.add_zero] at ac); (try simp only [show ((Kd.slice 2 (Kd.int .i64))).sz = 1 from rfl, Nat.mul_one, Nat.add_zero] at ad); clear am B D; (try clear ab); replace T := eq_true T; replace U := eq_true U; have n_ := mA (yB (ok' := (fun k_ => some k_ ≠ (q : Value).ownBlock)) b.out (fun k_ hk => hk.2)); clear b; have b := n_; clear n_; have aF := mA (show Kd.S (Kd.slice 2 (Kd.int .i64)) 22 O w.heap.size (fun k_ => ((fun _ => True)) k_ ∧ ¬ ((fun k_ => some k_ = (q : Value).ownBlock)) k_) (.slice (some ⟨g, 0, none⟩) c.length W) c from (by (with_reducible repeat (first | apply yD | apply yE | apply zW)); exact yB b.out (fun k_ hk => ⟨trivial, fun e_ => hk e_⟩))); obtain ⟨aN, aT, an, ae, E, G, af, ag⟩ := Kd.S_elem aF.out [] (a : Int) (ofD) (by have h_ : (a : Int) < ((c.length : Int) : Int) := ofD; first | exact h_ | (have e_ := (xA b.out).1; omega) | simpa using h_); obtain ⟨aK, rfl, aL⟩ := ae; have s := Kd.S_seg ag (ofD) (by have h_ : (a : Int) < ((c.length : Int) : Int) := ofD; first | exact h_ | (have e_ := (xA b.out).1; omega) | simpa using h_) (seg := [q]) (j := 0) (show 1 ≤ 1 from by decide) (x' := x) (Kd.M_row (zA (Kd.R_tight rfl (zA (ok' := fun k_ => ((fun _ => True)) k_ ∧ k_ ≠ g) (yP (i.out) (xH b.out) (by decide)) (fun k_ hk => ⟨trivial, fun e_ => (hk.2) (by rw [e_]; rfl)⟩))) (fun _ h_ => Or.inr (h_)))) (fun _ hk => hk) (fun k_ hk_ => ((zA (ok' := fun k_ => ((fun _ => True)) k_ ∧ k_ ≠ g) (yP (i.out) (xH b.out) (by decide)) (fun k_ hk => ⟨trivial, fun e_ => (hk.2) (by rw [e_]; rfl)⟩))).1 k_ hk_.symm); have ah := E 0 _ rfl; (try simp only [show ((Kd.slice 2 (Kd.int .i64))).sz = 1 from rfl, Nat.mul_one, Nat.add_zero] at ah); have ai := G 0; (try simp only [show ((Kd.slice 2 (Kd.int .i64))).sz = 1 from rfl, Nat.mul_one, Nat.add_zero] at ai); clear an E G; (try clear ae); clear af ag; (try simp only [show ((Kd.slice 2 (Kd.int .i64))).sz = 1 from rfl, Nat.mul_one, Nat.add_zero] at s)) | ((with_reducible refine Zbp (t := 22) (p := 21) rfl ?_); refine Zdx (t := 22) (p := 21) (v := ?vo_w13) (w1 := (O.setCell ⟨g, (a : Int).toNat, none⟩ (q))) ?hg ?ho ?hn ?hr ?_; (case ho => rfl); (case hg => rfl); (case hn => rfl); (case hr => first | (go_simp; done) | (go_simp; rfl) | (obtain ⟨aU, aV, aG⟩ := zJ (i.out); subst aG; first | (go_simp; done) | (go_simp; rfl))); intro aj hw; have hg : O.grownBy aj (some g) := (by rw [hw]; exact s.2); have hp_ : Kd.S (Kd.slice 2 (Kd.int .i64)) 22 aj w.heap.size (fun _ => True) (.slice (some ⟨g, 0, none⟩) c.length W) K := (by rw [hw, al.out]; exact s.1); clear s; replace b := mA (hp_); replace HB := mA ((by rw [hw]; exact Zbr (HB.out) aE.out : Below w.heap.size w aj)); clear i hg hw hp_))
   go_roundg k1
   case measure => have := ar.out; omega
   case rel => exact ⟨(K), (wrap64 (a + 1)), (eW), H', ⟨by have := ar.out; omega⟩, ⟨sP b.out⟩, ⟨bW⟩⟩
def Zce.f (k : Nat) (a : Int) (b : Int) (c : Int) (d : List (List Int)) : Option (Int × Int × Int × (List (List Int))) := (Zb1.f k d).bind fun e => (some (a, b, c, e))
theorem Zce.calls (k : Nat) (d : Int) (j : Int) (n : Int) (r : Option Addr) (s : Nat) (l : List (List Int)) (r1 : Int) (r2 : Int) (r3 : Int) (r4 : List (List Int)) (w : World) (D : Kd.C (Kd.slice 2 (Kd.int .i64)) w r l.length l) (E : l.length ≤ s) (h : Zce.f k d j n l = some (r1, r2, r3, r4)) :
  Calls Tryd.prog 9 #[.agg #[.int .i64 d, .int .i64 j, .int .i64 n, .slice r l.length s]] w fun e w' => ∃ M : Value, e = .returned (.agg #[.int .i64 r1, .int .i64 r2, .int .i64 r3, M]) ∧ Kd.S (Kd.slice 2 (Kd.int .i64)) 22 w' w.heap.size (fun _ => True) M r4 ∧ Below w.heap.size w w' := by
 have aK := Tryd.underlying27
 have aL := Tryd.underlying34
 have J := mA D
 have K := mA E
 clear D E
 have HB := mA (Below.refl w.heap.size w)
 unfold Zce.f at h
 have H := h
 clear h
 replace H := bE H
 obtain ⟨u, O, H⟩ := H
 have A2 := mA O
 clear O
 simp only [Option.some.injEq, Prod.mk.injEq] at H
 obtain ⟨rfl, rfl, rfl, rfl⟩ := H
 go_enter Tryd.func9, Tryd.ntmps9
 go_wp2_with (first | ((with_reducible refine Zao (N := 1) rfl ?_); refine boxS (N := 1) (cs := #[.int .i64 d, .int .i64 j, .int .i64 n, .slice r l.length s]) (t := 27) ?_; intro L hg w3 hbox hb; have a := mA (hbox); have aE := geW (w := w) hg; have aF := geW (w := w) hg; replace HB := mA (Zac (bW) hb); clear hb hbox hg) | ((with_reducible refine Zao (N := 2) rfl ?_); refine boxS (N := 2) (cs := #[.int .i64 0, .int .i64 0, .int .i64 0, .slice none 0 0]) (t := 34) ?_; intro q hg w4 hbox hb; have b := mA (hbox); have aG := geW (w := w) hg; have aH := geW (w := w) hg; replace HB := mA (Zac (bW) hb); have v := mA (neB hg a); have x := mA (neC hg a); replace a := mA (blkB a.out hb); clear hb hbox hg) | ((with_reducible refine Zao (N := 3) rfl ?_); refine boxS (N := 3) (cs := #[.int .i64 0, .int .i64 0, .int .i64 0, .slice none 0 0]) (t := 34) ?_; intro G hg w5 hbox hb; have m := mA (hbox); have aI := geW (w := w) hg; have aJ := geW (w := w) hg; replace HB := mA (Zac (bW) hb); have i := mA (neB hg a); have y := mA (neC hg a); replace a := mA (blkB a.out hb); have c := mA (neB hg b); have z := mA (neC hg b); replace b := mA (blkB b.out hb); clear hb hbox hg; have aM := v.out; have aN := x.out; have aO := i.out; have aP := y.out; obtain ⟨aw, ax, ay, az⟩ := Zbj a.out; obtain ⟨aA, aB, aC, aD⟩ := frz4 a.out; have aQ := z.out; have aR := c.out; obtain ⟨U, W, X, Y⟩ := Zbj m.out; obtain ⟨aa, ab, ac, ad⟩ := frz4 m.out) | ((with_reducible refine Zaw (f := 20) rfl ?_); refine Zbq (some 15) Tryd.func20 #[.slice r l.length s] ?_; (with_reducible refine (Zb1.calls k _ _ l u _ ?side1 ?side2 A2.out).mono ?_); (case side1 => exact zE J.out (bW)); (case side2 => exact K.out); rintro e aT ⟨aS, rfl, P, hb⟩; refine ⟨_, rfl, ?_⟩; have I := mA (xO P (Zah (bW))); replace a := mA (Zdl (g := L) (o := .cells #[.int .i64 d, .int .i64 j, .int .i64 n, .slice r l.length s] 27 (0, 0)) (by (with_reducible repeat (first | refine Zaj ?_ _ | refine Zad ?_ | refine Zae ?_ _)); refine Za5 ?_ i.out _; (with_reducible repeat (first | refine Zaj ?_ _ | refine Zad ?_ | refine Zae ?_ _)); refine Za5 ?_ i.out _; (with_reducible repeat (first | refine Zaj ?_ _ | refine Zad ?_ | refine Zae ?_ _)); refine Za5 ?_ i.out _; exact bP a.out) hb); replace b := mA (Zdl (g := q) (o := .cells #[.int .i64 0, .int .i64 0, .int .i64 0, .slice none 0 0] 34 (0, 0)) (by (with_reducible repeat (first | refine Zaj ?_ _ | refine Zad ?_ | refine Zae ?_ _)); refine Za5 ?_ c.out _; (with_reducible repeat (first | refine Zaj ?_ _ | refine Zad ?_ | refine Zae ?_ _)); refine Za5 ?_ c.out _; (with_reducible repeat (first | refine Zaj ?_ _ | refine Zad ?_ | refine Zae ?_ _)); refine Za5 ?_ c.out _; exact bP b.out) hb); replace m := mA (Zdl (g := G) (o := .cells #[.int .i64 d, .int .i64 j, .int .i64 n, .slice none 0 0] 34 (0, 0)) (by (with_reducible repeat (first | refine Zaj ?_ _ | refine Zad ?_ | refine Zae ?_ _)); refine Za2 (cs := #[.int .i64 d, .int .i64 j, .int .i64 0, .slice none 0 0]) ?_ 2 _ rfl; (with_reducible repeat (first | refine Zaj ?_ _ | refine Zad ?_ | refine Zae ?_ _)); refine Za2 (cs := #[.int .i64 d, .int .i64 0, .int .i64 0, .slice none 0 0]) ?_ 1 _ rfl; (with_reducible repeat (first | refine Zaj ?_ _ | refine Zad ?_ | refine Zae ?_ _)); refine Za2 (cs := #[.int .i64 0, .int .i64 0, .int .i64 0, .slice none 0 0]) ?_ 0 _ rfl; exact bP m.out) hb); replace HB := mA (Zac (bW) hb); (try clear hb); (try clear hb2); (try clear hk); (try clear hi); (try clear P); obtain ⟨A, B, T⟩ := xC I.out; subst T; obtain ⟨ae, af, ag, ah⟩ := Zbj m.out; obtain ⟨ai, aj, ak, al⟩ := frz4 m.out; obtain ⟨am, an, ao, ap⟩ := Zbj b.out; obtain ⟨aq, ar, au, av⟩ := frz4 b.out))
 refine bodyPost_ret (results_cell_row rfl _ _ q 34 #[.int .i64 d, .int .i64 j, .int .i64 n, .slice A u.length B] (0, 0) _ rfl (by (with_reducible repeat (first | refine Zaj ?_ _ | refine Zad ?_ | refine Zae ?_ _)); refine Za2 (cs := #[.int .i64 d, .int .i64 j, .int .i64 n, .slice none 0 0]) ?_ 3 _ rfl; (with_reducible repeat (first | refine Zaj ?_ _ | refine Zad ?_ | refine Zae ?_ _)); refine Za2 (cs := #[.int .i64 d, .int .i64 j, .int .i64 0, .slice none 0 0]) ?_ 2 _ rfl; (with_reducible repeat (first | refine Zaj ?_ _ | refine Zad ?_ | refine Zae ?_ _)); refine Za2 (cs := #[.int .i64 d, .int .i64 0, .int .i64 0, .slice none 0 0]) ?_ 1 _ rfl; (with_reducible repeat (first | refine Zaj ?_ _ | refine Zad ?_ | refine Zae ?_ _)); refine Za2 (cs := #[.int .i64 0, .int .i64 0, .int .i64 0, .slice none 0 0]) ?_ 0 _ rfl; (with_reducible repeat (first | refine Zaj ?_ _ | refine Zad ?_ | refine Zae ?_ _)); refine Za5 ?_ c.out _; exact bP b.out) Tryd.underlying34 rfl (by kernel_rfl)) rfl ?_
 exact ⟨_, eW, by (with_reducible repeat (first | apply yD | apply yE | apply zW)); exact yB (zY (p := ⟨q, 3, none⟩) (zY (p := ⟨q, 2, none⟩) (zY (p := ⟨q, 1, none⟩) (zY (p := ⟨q, 0, none⟩) (zY (p := ⟨G, 3, none⟩) (yR (yR I.out m.out (by decide)) b.out (by decide)) (fun _ hk => hk.1.2) (.slice A u.length B)) (fun _ hk => hk.2) (.int .i64 d)) (fun _ hk => hk.2) (.int .i64 j)) (fun _ hk => hk.2) (.int .i64 n)) (fun _ hk => hk.2) (.slice A u.length B)) (fun _ hk => trivial), bW⟩
def Zdg.f (a0 : Int) (a1 : Int) : Option (Bool) := if 0 ≤ a1 then (some ((Go.bits .and .i64 (shr .i64 a0 a1) 1) == 1)) else (none)
theorem Zdg.calls (a0 : Int) (a1 : Int) (r : Bool) (w : World) (h : Zdg.f a0 a1 = some r) :
  Calls Tryd.prog 44 #[.int .i64 a0, .int .i64 a1] w fun e w' => e = .returned (.bool r) ∧ Zas w w' := by
 unfold Zdg.f at h
 have H := h
 clear h
 by_cases c3 : 0 ≤ a1; rotate_left
 ·rw [if_neg c3] at H
  exact absurd H (by simp)
 rw [if_pos c3] at H
 have g := eq_true c3
 have i := dT c3
 clear c3
 obtain ⟨b, a⟩ : ∃ j_ : Int, (shr .i64 a0 a1) = j_ := ⟨_, rfl⟩
 replace H : (some ((Go.bits .and .i64 (b) 1) == 1)) = some r := by first | (rw [a] at H; exact H) | (simp only [a] at H ⊢; exact H)
 have c : (a0 / 2 ^ min a1.toNat 64) = b := a
 have d : a1 ≤ 64 → (a0 / 2 ^ a1.toNat) = b := shr_small a
 obtain rfl := oI H
 go_enter Tryd.func44, Tryd.ntmps44
 go_wp2
 go_ret
 exact ⟨by first | rfl | (simp; done) | (simp only [← a] <;> (first | rfl | simp)) | (simp [*]; done), by repeat (first | exact Zas.refl _ | apply Zas.step)⟩
def Zbu.f (a0 : Int) (a1 : Int) (a2 : Int) : Option (Bool) := if a1 ≤ a0 then (some (decide (a0 ≤ a2))) else (some false)
theorem Zbu.calls (a0 : Int) (a1 : Int) (a2 : Int) (r : Bool) (w : World) (h : Zbu.f a0 a1 a2 = some r) :
  Calls Tryd.prog 59 #[.int .i64 a0, .int .i64 a1, .int .i64 a2] w fun e w' => e = .returned (.bool r) ∧ Zas w w' := by
 unfold Zbu.f at h
 have H := h
 clear h
 by_cases c4 : a1 ≤ a0
 ·rw [if_pos c4] at H
  have a := dT c4
  clear c4
  obtain rfl := oI H
  go_enter Tryd.func59, Tryd.ntmps59
  go_wp2
  go_ret
  exact ⟨eW, by repeat (first | exact Zas.refl _ | apply Zas.step)⟩
 ·rw [if_neg c4] at H
  have a := dF c4
  clear c4
  obtain rfl := oI H
  go_enter Tryd.func59, Tryd.ntmps59
  go_wp2
  go_ret
  exact ⟨eW, by repeat (first | exact Zas.refl _ | apply Zas.step)⟩
def Zbm.f (l0 : List Int) : Option (Int) := some (l0.length : Int)
theorem Zbm.calls (A0 : Option Addr) (c0 : Nat) (l0 : List Int) (r : Int) (w : World) (a : Kd.C (Kd.int .i64) w A0 l0.length l0) (b : l0.length ≤ c0) (h : Zbm.f l0 = some r) :
  Calls Tryd.prog 60 #[.slice A0 l0.length c0] w fun e w' => e = .returned (.int .i64 r) ∧ Zas w w' := by
 have c := mA a
 have d := mA b
 clear a b
 unfold Zbm.f at h
 have H := h
 clear h
 obtain rfl := oI H
 go_enter Tryd.func60, Tryd.ntmps60
 go_wp2
 go_ret
 exact ⟨eW, by repeat (first | exact Zas.refl _ | apply Zas.step)⟩
end Go.Proofs.YtgindgodfcfgkaaDoor.P
end M0
