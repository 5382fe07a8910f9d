import Derived.ChangeShapes
import Derived.Deep.Slices
import Derived.Lib.SmallJoins
import Derived.Test.YtlmicipfikammaaDoorCFnExactLoopFault12
section
namespace Go.Proofs.YtlmicipfikammaaDoor.P
open Go.RowKit Go.Proofs.YtlmicipfikammaaDoor.Sh Go.Proofs.YtlmicipfikammaaDoorW.PrintWords Go.Proofs.YtlmicipfikammaaDoorW.PrintLast Go.Proofs.YtlmicipfikammaaDoorW.PrintMore
open Kd
attribute [local go_sem] Zb8 Zcb Zcm Zcl Zb4 Zb3 Zb7 Zcd   -- for this text's walks alone
set_option linter.unusedVariables false
set_option linter.unusedSimpArgs false
def Zax.j0 : Nat → Bool → Int → List Int → Int → Int → Int → List (List Int) → Int → List Int → Int → Int → Int → List (List Int) → Option (Bool)
 | 0, _, _, _, _, _, _, _, _, _, _, _, _, _ => none
 | k + 1, s, c, d, e, g, h, i, j, l, m, n, o, p => if s = true then (some false) else ((Zb2.f k c d).bind fun b => ((Zcw.f k j l b.1 b.2).bind fun q => (if q = true then ((Zbz.f k e g h i).bind fun a => ((Zcn.f k m n o p a.1 a.2.1 a.2.2.1 a.2.2.2).bind fun r => (if r = true then (some true) else (some false)))) else (some false))))
def Zax.f (k : Nat) (c : Int) (d : List Int) (e : Int) (g : Int) (h : Int) (i : List (List Int)) : Option (Bool) := (Zce.f c d 1048576).bind fun o => (if o < 0 then (some true) else ((Zcf.f k e g h i o).bind fun p => (if p < 0 then (some true) else ((Zb2.f k c d).bind fun n => ((Zbz.f k e g h i).bind fun j => ((Za0.f k n.1 n.2 j.1 j.2.1 j.2.2.1 j.2.2.2).bind fun l => ((Zb2.f k c d).bind fun b => ((Zbz.f k e g h i).bind fun a => ((Za2.f k b.1 b.2 a.1 a.2.1 a.2.2.1 a.2.2.2).bind fun m => (if m.1 = l.1 then (if m.2.1 = l.2.1 then (Zax.j0 k (m.2.2 != l.2.2) c d e g h i b.1 b.2 a.1 a.2.1 a.2.2.1 a.2.2.2) else (Zax.j0 k true c d e g h i b.1 b.2 a.1 a.2.1 a.2.2.1 a.2.2.2)) else (Zax.j0 k true c d e g h i b.1 b.2 a.1 a.2.1 a.2.2.1 a.2.2.2)))))))))))
def Zax.T8 : Bool × List (List Nat × List Nat) := (true, [([], []), ([0], [0]), ([], []), ([2, 1], [2]), ([1, 3, 3], [1, 3]), ([4], [4]), ([5], [5]), ([5], [5]), ([5], [5]), ([6, 4, 0, 1, 2, 3, 4, 5, 6], [6]), ([7, 9, 0, 1, 2, 3, 4, 5, 6, 7, 9], [7]), ([8, 10, 0, 1, 2, 3, 4, 5, 6, 7, 8, 9, 10], [8])])
def Zax.B8 : List Nat := [0, 1, 0, 7, 15, 31, 63, 63, 63, 127, 767, 2047]
theorem Zax.tab8 : rtab .any (opsOf Tryd.f4 8) = Zax.T8 := by kernel_rfl
theorem Zax.bits8 : waitsOk Zax.T8.2 Zax.B8 = true := by kernel_rfl
set_option maxHeartbeats 8000000 in
set_option maxRecDepth 100000 in
theorem Zax.calls (k : Nat) (x : Int) (O : Option Addr) (P : Nat) (s : List Int) (D : Int) (E : Int) (G : Int) (ab : Option Addr) (ac : Nat) (y : List (List Int)) (r : Bool) (w : World) (bb : Kd.C (Kd.int .i64) w O s.length s) (bd : s.length ≤ P) (bf : Kd.C (Kd.slice 2 (Kd.int .i64)) w ab y.length y) (bg : y.length ≤ ac) (h : Zax.f k x s D E G y = some r) (hT_ : r = true) (hTab : Tab w) :
  Calls Tryd.prog 4 #[.agg #[.int .i64 x, .slice O s.length P], .agg #[.int .i64 D, .int .i64 E, .int .i64 G, .slice ab y.length ac]] w fun e w' => e = .returned (.bool r) ∧ Below w.heap.size w w' := by
 have HTab := mA hTab
 clear hTab
 have HTr_ := mA hT_
 clear hT_
 have dB := Tryd.underlying24
 have dC := Tryd.underlying27
 have dD := Tryd.underlying32
 have dE := Tryd.underlying34
 have ar := mA bb
 have au := mA bd
 clear bb bd
 have aw := mA bf
 have ax := mA bg
 clear bf bg
 have HB := mA (Below.refl w.heap.size w)
 unfold Zax.f at h
 have H := h
 clear h
 obtain ⟨am, A3, H⟩ := bA H
 by_cases c4 : am < 0
 ·rw [if_pos c4] at H
  have cg := dT c4
  clear c4
  obtain rfl := oI H
  go_enter Tryd.func4, Tryd.ntmps4
  go_wp2_with (first | ((with_reducible refine Zan (N := 2) rfl ?_); refine boxS (N := 2) (cs := #[.int .i64 x, .slice O s.length P]) (t := 24) ?_; intro Z hg w5 hbox hb; have a := mA (hbox); have bh := geW (w := w) hg; have bi := geW (w := w) hg; replace HB := mA (Zac (bW) hb); clear hb hbox hg) | ((with_reducible refine Zan (N := 3) rfl ?_); refine boxS (N := 3) (cs := #[.int .i64 D, .int .i64 E, .int .i64 G, .slice ab y.length ac]) (t := 27) ?_; intro M hg w6 hbox hb; have b := mA (hbox); have bj := geW (w := w) hg; have bk := geW (w := w) hg; replace HB := mA (Zac (bW) hb); have ag := mA (neB hg a); have ah := mA (neC hg a); replace a := mA (blkB a.out hb); clear hb hbox hg; have dG := ag.out; have dH := ah.out; obtain ⟨cZ, c0⟩ := Zcg a.out; obtain ⟨c1, da⟩ := frz2 a.out) | ((with_reducible refine Zal (f := 8) rfl ?_); refine Zbc (some 16) Tryd.func8 #[.agg #[.int .i64 x, .slice O s.length P], .int .i64 1048576] ?_; (with_reducible refine (Zce.calls x _ _ s 1048576 am _ ?side1 ?side2 A3.out).mono ?_); (case side1 => exact cP (zC ar.out HB.out)); (case side2 => exact au.out); rintro e w9 ⟨rfl, hb⟩; refine ⟨_, rfl, ?_⟩; replace a := mA (blkB a.out hb); replace b := mA (blkB b.out hb); replace HB := mA (Zac (bW) hb); (try clear hb); (try clear hb2); (try clear hk); (try clear hi)))
  go_ret
  exact ⟨eW, bW⟩
 rw [if_neg c4] at H
 have cg := dF c4
 clear c4
 obtain ⟨aZ, ct, H⟩ := bA H
 by_cases aO : aZ < 0
 ·rw [if_pos aO] at H
  have bl := dT aO
  clear aO
  obtain rfl := oI H
  go_enter Tryd.func4, Tryd.ntmps4
  go_wp2_with (first | ((with_reducible refine Zan (N := 2) rfl ?_); refine boxS (N := 2) (cs := #[.int .i64 x, .slice O s.length P]) (t := 24) ?_; intro Z hg dP hbox hb; have a := mA (hbox); have bh := geW (w := w) hg; have bi := geW (w := w) hg; replace HB := mA (Zac (bW) hb); clear hb hbox hg) | ((with_reducible refine Zan (N := 3) rfl ?_); refine boxS (N := 3) (cs := #[.int .i64 D, .int .i64 E, .int .i64 G, .slice ab y.length ac]) (t := 27) ?_; intro M hg dQ hbox hb; have b := mA (hbox); have bj := geW (w := w) hg; have bk := geW (w := w) hg; replace HB := mA (Zac (bW) hb); have ag := mA (neB hg a); have ah := mA (neC hg a); replace a := mA (blkB a.out hb); clear hb hbox hg; have dg := ag.out; have dh := ah.out; obtain ⟨cM, cN⟩ := Zcg a.out; obtain ⟨cO, cQ⟩ := frz2 a.out) | ((with_reducible refine Zal (f := 8) rfl ?_); refine Zbc (some 16) Tryd.func8 #[.agg #[.int .i64 x, .slice O s.length P], .int .i64 1048576] ?_; (with_reducible refine (Zce.calls x _ _ s 1048576 am _ ?side1 ?side2 A3.out).mono ?_); (case side1 => exact cP (zC ar.out HB.out)); (case side2 => exact au.out); rintro e dR ⟨rfl, hb⟩; refine ⟨_, rfl, ?_⟩; replace a := mA (blkB a.out hb); replace b := mA (blkB b.out hb); replace HB := mA (Zac (bW) hb); (try clear hb); (try clear hb2); (try clear hk); (try clear hi); obtain ⟨cR, cS, cT, cU⟩ := Zbk b.out; obtain ⟨cV, cW, cX, cY⟩ := frz4 b.out) | ((with_reducible refine Zal (f := 9) rfl ?_); refine Zbc (some 21) Tryd.func9 #[.agg #[.int .i64 D, .int .i64 E, .int .i64 G, .slice ab y.length ac], .int .i64 am] ?_; (with_reducible refine (Zcf.calls k D E G _ _ y am aZ _ ?side1 ?side2 ct.out).mono ?_); (case side1 => exact cP (zC aw.out HB.out)); (case side2 => exact ax.out); rintro e dS ⟨rfl, hb⟩; refine ⟨_, rfl, ?_⟩; replace a := mA (blkB a.out hb); replace b := mA (blkB b.out hb); replace HB := mA (Zac (bW) hb); (try clear hb); (try clear hb2); (try clear hk); (try clear hi)))
  go_ret
  exact ⟨eW, bW⟩
 rw [if_neg aO] at H
 have bl := dF aO
 clear aO
 obtain ⟨⟨a0, al⟩, A19, H⟩ := bA H
 try dsimp only at H
 obtain ⟨⟨a1, a2, a3, av⟩, A20, H⟩ := bA H
 try dsimp only at H
 obtain ⟨⟨aC, aD, ch⟩, A21, H⟩ := bA H
 try dsimp only at H
 obtain ⟨⟨T, u⟩, A22, H⟩ := bA H
 try dsimp only at H
 obtain ⟨⟨U, Y, ad, I⟩, A23, H⟩ := bA H
 try dsimp only at H
 obtain ⟨⟨aE, aF, ci⟩, A24, H⟩ := bA H
 try dsimp only at H
 have a4 := mA H
 clear H
 go_enter Tryd.func4, Tryd.ntmps4
 try go_wp2_with (first | ((with_reducible refine Zan (N := 2) rfl ?_); refine boxS (N := 2) (cs := #[.int .i64 x, .slice O s.length P]) (t := 24) ?_; intro Z hg dU hbox hb; have a := mA (hbox); have bh := geW (w := w) hg; have bi := geW (w := w) hg; replace HB := mA (Zac (bW) hb); clear hb hbox hg) | ((with_reducible refine Zan (N := 3) rfl ?_); refine boxS (N := 3) (cs := #[.int .i64 D, .int .i64 E, .int .i64 G, .slice ab y.length ac]) (t := 27) ?_; intro M hg dV hbox hb; have b := mA (hbox); have bj := geW (w := w) hg; have bk := geW (w := w) hg; replace HB := mA (Zac (bW) hb); have ag := mA (neB hg a); have ah := mA (neC hg a); replace a := mA (blkB a.out hb); clear hb hbox hg; have di := ag.out; have dj := ah.out; obtain ⟨bp, bq⟩ := Zcg a.out; obtain ⟨br, bs⟩ := frz2 a.out) | ((with_reducible refine Zal (f := 8) rfl ?_); refine Zbc (some 16) Tryd.func8 #[.agg #[.int .i64 x, .slice O s.length P], .int .i64 1048576] ?_; (with_reducible refine (Zce.calls x _ _ s 1048576 am _ ?side1 ?side2 A3.out).mono ?_); (case side1 => exact cP (zC ar.out HB.out)); (case side2 => exact au.out); rintro e dW ⟨rfl, hb⟩; refine ⟨_, rfl, ?_⟩; replace a := mA (blkB a.out hb); replace b := mA (blkB b.out hb); replace HB := mA (Zac (bW) hb); (try clear hb); (try clear hb2); (try clear hk); (try clear hi); obtain ⟨bu, bv, bw, bx⟩ := Zbk b.out; obtain ⟨bz, bB, bC, bD⟩ := frz4 b.out) | ((with_reducible refine Zal (f := 9) rfl ?_); refine Zbc (some 21) Tryd.func9 #[.agg #[.int .i64 D, .int .i64 E, .int .i64 G, .slice ab y.length ac], .int .i64 am] ?_; (with_reducible refine (Zcf.calls k D E G _ _ y am aZ _ ?side1 ?side2 ct.out).mono ?_); (case side1 => exact cP (zC aw.out HB.out)); (case side2 => exact ax.out); rintro e db ⟨rfl, hb⟩; refine ⟨_, rfl, ?_⟩; replace a := mA (blkB a.out hb); replace b := mA (blkB b.out hb); replace HB := mA (Zac (bW) hb); (try clear hb); (try clear hb2); (try clear hk); (try clear hi)))
 replace a := mA (Zah a.out)
 replace b := mA (Zah b.out)
 replace HB := mA (Zbe HB.out)
 refine start_ (n := 12) (S := fun w' => w'.cell? ⟨Z, 0, none⟩ = some (.int .i64 x) ∧ w'.cell? ⟨Z, 1, none⟩ = some (.slice O s.length P) ∧ w'.cell? ⟨M, 0, none⟩ = some (.int .i64 D) ∧ w'.cell? ⟨M, 1, none⟩ = some (.int .i64 E) ∧ w'.cell? ⟨M, 2, none⟩ = some (.int .i64 G) ∧ w'.cell? ⟨M, 3, none⟩ = some (.slice ab y.length ac)) (ds := []) #[false, false, false, false, false, false, false, false, false, false, false, false] (by kernel_rfl) rfl rfl ⟨bc a 0, bc a 1, bc b 0, bc b 1, bc b 2, bc b 3⟩ (fun hHeld => ?_); refine Zc6 Zax.tab8 Zax.bits8 (fun HT_ HW_ => ?_)
 generalize db.drew = w33 at a b HB hHeld ⊢
 refine takeS (i := 0) (N := some 25) (Zbw HT_.out HW_.out (by kernel_rfl)) hHeld ?_
 refine takeS (i := 2) (N := some 27) (Zbw HT_.out HW_.out (by kernel_rfl)) hHeld ?_
 refine one_ (i := 1) (N := some 26) #[true, true, true, false, false, false, false, false, false, false, false, false] rfl rfl (Zcc HT_.out (by kernel_rfl)) (by decide) (fun K hK => ?_)
 refine goes_ Tryd.func11 (by kernel_rfl) rfl #[.agg #[.int .i64 x, .slice O s.length P]] (by rfl) rfl rfl (by (try simp only [List.map_toArray, List.map_cons, List.map_nil]); first | done | rfl | (simp only [List.length_drop, List.length_take]; rfl)) ?_
 with_reducible refine (Zb2.calls k x _ _ s a0 al _ ?side1 ?side2 A19.out).mono ?_
 (case side1 => exact cP (zC ar.out HB.out))
 (case side2 => exact au.out)
 rintro e dX ⟨dI, rfl, W, hb⟩
 refine ⟨_, rfl, ?_⟩
 have q := mA (zQ W (Zao (bW)))
 replace a := mA (blkB a.out hb)
 replace b := mA (blkB b.out hb)
 replace HB := mA (Zac (bW) hb)
 (try clear hb)
 (try clear hb2)
 (try clear hk)
 (try clear hi)
 (try clear W)
 refine hK.out _ _ ⟨bc a 0, bc a 1, bc b 0, bc b 1, bc b 2, bc b 3⟩ (fun hHeld => ?_)
 clear hK K
 refine putS 26 ?_
 refine one_ (i := 3) (N := some 28) #[true, true, true, true, false, false, false, false, false, false, false, false] rfl rfl (Zcc HT_.out (by kernel_rfl)) (by decide) (fun K hK => ?_)
 refine goes_ Tryd.func12 (by kernel_rfl) rfl #[.agg #[.int .i64 D, .int .i64 E, .int .i64 G, .slice ab y.length ac]] (by rfl) rfl rfl (by (try simp only [List.map_toArray, List.map_cons, List.map_nil]); first | done | rfl | (simp only [List.length_drop, List.length_take]; rfl)) ?_
 with_reducible refine (Zbz.calls k D E G _ _ y a1 a2 a3 av _ ?side1 ?side2 A20.out).mono ?_
 (case side1 => exact cP (zC aw.out HB.out))
 (case side2 => exact ax.out)
 rintro e dY ⟨dJ, rfl, W, hb⟩
 refine ⟨_, rfl, ?_⟩
 obtain ⟨co, cj⟩ := sizeI hb
 have z := mA (xE (xA (Kd.S_newI W cj) (yF (rP q.out))) (Zao (bW)))
 replace q := mA (zG (rP q.out) hb)
 replace a := mA (blkB a.out hb)
 replace b := mA (blkB b.out hb)
 replace HB := mA (Zac (bW) hb)
 (try clear hb)
 (try clear hb2)
 (try clear hk)
 (try clear hi)
 (try clear W)
 obtain ⟨aG, aH, ck⟩ := zH q.out
 (first | subst ck | (injection ck with an aJ ao; have aK := an.symm; have aL := ao.symm; clear an aJ ao; subst aK; subst aL))
 obtain ⟨aP, aQ, cl⟩ := xB z.out
 (first | subst cl | (injection cl with an aJ ao; have aK := an.symm; have aL := ao.symm; clear an aJ ao; subst aK; subst aL))
 refine hK.out _ _ ⟨bc a 0, bc a 1, bc b 0, bc b 1, bc b 2, bc b 3⟩ (fun hHeld => ?_)
 clear hK K
 refine putS 28 ?_
 refine one_ (i := 4) (N := some 29) #[true, true, true, true, true, false, false, false, false, false, false, false] rfl rfl (Zcc HT_.out (by kernel_rfl)) (by decide) (fun K hK => ?_)
 refine goes_ Tryd.func18 (by kernel_rfl) rfl #[.agg #[.int .i64 a0, .slice aG al.length aH], .agg #[.int .i64 a1, .int .i64 a2, .int .i64 a3, .slice aP av.length aQ]] (by rfl) rfl rfl (by (try simp only [List.map_toArray, List.map_cons, List.map_nil]); first | done | rfl | (simp only [List.length_drop, List.length_take]; rfl)) ?_
 with_reducible refine (Za0.calls k a0 _ _ al a1 a2 a3 _ _ av aC aD ch _ ?side1 ?side2 ?side3 ?side4 A21.out).mono ?_
 (case side1 => exact cP ((zF q.out).2.2))
 (case side2 => exact (zF q.out).2.1)
 (case side3 => exact cP ((yU z.out).2.2))
 (case side4 => exact (yU z.out).2.1)
 rintro e cu ⟨rfl, hb⟩
 refine ⟨_, rfl, ?_⟩
 replace q := mA (zG (rP q.out) hb)
 replace z := mA (yG (sP z.out) hb)
 replace a := mA (blkB a.out hb)
 replace b := mA (blkB b.out hb)
 replace HB := mA (Zac (bW) hb)
 (try clear hb)
 (try clear hb2)
 (try clear hk)
 (try clear hi)
 refine hK.out _ _ ⟨bc a 0, bc a 1, bc b 0, bc b 1, bc b 2, bc b 3⟩ (fun hHeld => ?_)
 clear hK K
 refine putS 29 ?_
 refine Za6 (i := 5) (N := some 24) (Zau HT_.out (by kernel_rfl)) ?_
 refine Za6 (i := 6) (N := some 30) (Zau HT_.out (by kernel_rfl)) ?_
 refine Za6 (i := 7) (N := some 31) (Zau HT_.out (by kernel_rfl)) ?_
 refine Za6 (i := 8) (N := some 32) (Zau HT_.out (by kernel_rfl)) ?_
 refine Za6 (i := 9) (N := some 6) (Zau HT_.out (by kernel_rfl)) ?_
 refine Za6 (i := 10) (N := some 7) (Zau HT_.out (by kernel_rfl)) ?_
 refine Za6 (i := 11) (N := some 8) (Zau HT_.out (by kernel_rfl)) ?_
 refine done_ (done_of HT_.out (by kernel_rfl)) ?_
 have bE : cu.cell? ⟨Z, 0, none⟩ = some (.int .i64 x) := bc a 0
 have bF : cu.cell? ⟨Z, 1, none⟩ = some (.slice O s.length P) := bc a 1
 have bG := Zaa a.out 0
 have bH := Zaa a.out 1
 go_upto_region 12 with (first | ((with_reducible refine Zal (f := 11) rfl ?_); refine Zbc (some 34) Tryd.func11 #[.agg #[.int .i64 x, .slice O s.length P]] ?_; (with_reducible refine (Zb2.calls k x _ _ s T u _ ?side1 ?side2 A22.out).mono ?_); (case side1 => exact cP (zC ar.out HB.out)); (case side2 => exact au.out); rintro e dZ ⟨dK, rfl, W, hb⟩; refine ⟨_, rfl, ?_⟩; replace z := mA (xI (sP z.out) (zY W) hb); have A := mA (zQ (yM W (yF (rP q.out))) (Zao (bW))); replace q := mA (yL (rP q.out) (zY W) hb); replace a := mA (blkB a.out hb); replace b := mA (blkB b.out hb); replace HB := mA (Zac (bW) hb); (try clear hb); (try clear hb2); (try clear hk); (try clear hi); (try clear W)) | ((with_reducible refine Zan (N := 9) rfl ?_); refine boxS (N := 9) (cs := #[.int .i64 0, .slice none 0 0]) (t := 32) ?_; intro B hg d0 hbox hb; replace q := mA (zG (rP q.out) hb); replace z := mA (yG (sP z.out) hb); replace A := mA (zG (rP A.out) hb); have c := mA (hbox); have dk := geW (w := w) hg; have dl := geW (w := w) hg; replace HB := mA (Zac (bW) hb); have ap := mA (neB hg a); have aS := mA (neC hg a); replace a := mA (blkB a.out hb); have aq := mA (neB hg b); have aT := mA (neC hg b); replace b := mA (blkB b.out hb); clear hb hbox hg; have dm := aS.out; have dn := ap.out; have dp := aT.out; have dq := aq.out; obtain ⟨bI, bJ⟩ := Zcg c.out; obtain ⟨bK, bL⟩ := frz2 c.out; obtain ⟨J, L, cE⟩ := zH A.out; subst cE; obtain ⟨bM, bN, bO, bQ⟩ := Zbk b.out; obtain ⟨bR, bS, bT, bU⟩ := frz4 b.out) | ((with_reducible refine Zal (f := 12) rfl ?_); refine Zbc (some 36) Tryd.func12 #[.agg #[.int .i64 D, .int .i64 E, .int .i64 G, .slice ab y.length ac]] ?_; (with_reducible refine (Zbz.calls k D E G _ _ y U Y ad I _ ?side1 ?side2 A23.out).mono ?_); (case side1 => exact zC aw.out (bW)); (case side2 => exact ax.out); rintro e d1 ⟨dL, rfl, W, hb⟩; refine ⟨_, rfl, ?_⟩; obtain ⟨aI, aU⟩ := sizeI hb; have aa := mA (xE (xA (xA (xA (Kd.S_newI W aU) (yF (by (with_reducible repeat (first | apply zE | apply zD | apply zB)); exact (zA (zJ (p := ⟨B, 1, none⟩) (zJ (p := ⟨B, 0, none⟩) (yE q.out c.out (by decide)) (fun _ hk => hk.2) (.int .i64 T)) (fun _ hk => hk.2) (.slice J u.length L)) (fun _ h_ => h_.1))))) (Kd.S_lt (by (with_reducible repeat (first | apply yH | apply yI | apply yB)); exact (yD (zZ (p := ⟨B, 1, none⟩) (zZ (p := ⟨B, 0, none⟩) (yN z.out c.out (by decide)) (fun _ hk => hk.2) (.int .i64 T)) (fun _ hk => hk.2) (.slice J u.length L)) (fun _ h_ => h_.1))))) (yF (by (with_reducible repeat (first | apply zE | apply zD | apply zB)); exact (zA (zJ (p := ⟨B, 1, none⟩) (zJ (p := ⟨B, 0, none⟩) (yE A.out c.out (by decide)) (fun _ hk => hk.2) (.int .i64 T)) (fun _ hk => hk.2) (.slice J u.length L)) (fun _ h_ => h_.1))))) (Zao (bW))); replace q := mA (zG (by (with_reducible repeat (first | apply zE | apply zD | apply zB)); exact (zA (zJ (p := ⟨B, 1, none⟩) (zJ (p := ⟨B, 0, none⟩) (yE q.out c.out (by decide)) (fun _ hk => hk.2) (.int .i64 T)) (fun _ hk => hk.2) (.slice J u.length L)) (fun _ h_ => h_.1))) hb); replace z := mA (Kd.S_elderI (by (with_reducible repeat (first | apply yH | apply yI | apply yB)); exact (yD (zZ (p := ⟨B, 1, none⟩) (zZ (p := ⟨B, 0, none⟩) (yN z.out c.out (by decide)) (fun _ hk => hk.2) (.int .i64 T)) (fun _ hk => hk.2) (.slice J u.length L)) (fun _ h_ => h_.1))) (Kd.S_base W) hb aU); replace A := mA (zG (by (with_reducible repeat (first | apply zE | apply zD | apply zB)); exact (zA (zJ (p := ⟨B, 1, none⟩) (zJ (p := ⟨B, 0, none⟩) (yE A.out c.out (by decide)) (fun _ hk => hk.2) (.int .i64 T)) (fun _ hk => hk.2) (.slice J u.length L)) (fun _ h_ => h_.1))) hb); replace a := mA (Zco (g := Z) (o := .cells #[.int .i64 x, .slice O s.length P] 24 (0, 0)) (by (with_reducible repeat (first | refine Zai ?_ _ | refine Zah ?_ | refine Zag ?_ _)); refine Zbb ?_ ap.out _; (with_reducible repeat (first | refine Zai ?_ _ | refine Zah ?_ | refine Zag ?_ _)); refine Zbb ?_ ap.out _; exact bP a.out) hb); replace b := mA (Zco (g := M) (o := .cells #[.int .i64 D, .int .i64 E, .int .i64 G, .slice ab y.length ac] 27 (0, 0)) (by (with_reducible repeat (first | refine Zai ?_ _ | refine Zah ?_ | refine Zag ?_ _)); refine Zbb ?_ aq.out _; (with_reducible repeat (first | refine Zai ?_ _ | refine Zah ?_ | refine Zag ?_ _)); refine Zbb ?_ aq.out _; exact bP b.out) hb); replace c := mA (Zco (g := B) (o := .cells #[.int .i64 T, .slice J u.length L] 32 (0, 0)) (by (with_reducible repeat (first | refine Zai ?_ _ | refine Zah ?_ | refine Zag ?_ _)); refine Zbj (cs := #[.int .i64 T, .slice none 0 0]) ?_ 1 _ rfl; (with_reducible repeat (first | refine Zai ?_ _ | refine Zah ?_ | refine Zag ?_ _)); refine Zbj (cs := #[.int .i64 0, .slice none 0 0]) ?_ 0 _ rfl; exact bP c.out) hb); replace HB := mA (Zac (bW) hb); (try clear hb); (try clear hb2); (try clear hk); (try clear hi); (try clear W)) | ((with_reducible refine Zan (N := 10) rfl ?_); refine boxS (N := 10) (cs := #[.int .i64 0, .int .i64 0, .int .i64 0, .slice none 0 0]) (t := 34) ?_; intro m hg dc hbox hb; replace q := mA (zG (rP q.out) hb); replace z := mA (yG (sP z.out) hb); replace A := mA (zG (rP A.out) hb); replace aa := mA (yG (sP aa.out) hb); have d := mA (hbox); have dr := geW (w := w) hg; have dt := geW (w := w) hg; replace HB := mA (Zac (bW) hb); have ai := mA (neB hg a); have aV := mA (neC hg a); replace a := mA (blkB a.out hb); have aj := mA (neB hg b); have aW := mA (neC hg b); replace b := mA (blkB b.out hb); have ak := mA (neB hg c); have aX := mA (neC hg c); replace c := mA (blkB c.out hb); clear hb hbox hg; have du := aV.out; have dv := ai.out; have dw := aW.out; have dx := aj.out; have dy := aX.out; have dz := ak.out; obtain ⟨bV, bX, bY, bZ⟩ := Zbk d.out; obtain ⟨b0, b1, b2, b3⟩ := frz4 d.out; obtain ⟨ae, af, cF⟩ := xB aa.out; subst cF) | ((with_reducible refine Zbp (t := 34) (p := 10) rfl ?_); refine Zc8 (t := 34) (p := 10) (v := ?vo_w54) (w1 := ((((dc.setCell ⟨m, 0, none⟩ (.int .i64 U)).setCell ⟨m, 1, none⟩ (.int .i64 Y)).setCell ⟨m, 2, none⟩ (.int .i64 ad)).setCell ⟨m, 3, none⟩ (.slice ae I.length af))) ?hg ?ho ?hn ?hr ?_; (case ho => rfl); (case hg => rfl); (case hn => rfl); (case hr => first | (go_simp; done) | (go_simp; rfl)); intro ay hw; have cv : Zab (Kd.R (Kd.int .i64) 2 ay w.heap.size (fun k_ => some k_ ≠ (.slice J u.length L : Value).ownBlock) (.slice aG al.length aH) al) := ⟨(by rw [hw]; exact (by (with_reducible repeat (first | apply zE | apply zD | apply zB)); exact zA (zJ (p := ⟨m, 3, none⟩) (zJ (p := ⟨m, 2, none⟩) (zJ (p := ⟨m, 1, none⟩) (zJ (p := ⟨m, 0, none⟩) (yE q.out d.out (by decide)) (fun _ hk => hk.2) (.int .i64 U)) (fun _ hk => hk.2) (.int .i64 Y)) (fun _ hk => hk.2) (.int .i64 ad)) (fun _ hk => hk.2) (.slice ae I.length af)) (fun _ hk => hk.1.2)))⟩; have cw : Zab (Kd.S (Kd.slice 2 (Kd.int .i64)) 22 ay w.heap.size (fun k_ => some k_ ≠ (.slice aG al.length aH : Value).ownBlock ∧ some k_ ≠ (.slice J u.length L : Value).ownBlock ∧ some k_ ≠ (.slice ae I.length af : Value).ownBlock ∧ co ≤ k_ ∧ k_ < aI) (.slice aP av.length aQ) av) := ⟨(by rw [hw]; exact (by (with_reducible repeat (first | apply yH | apply yI | apply yB)); exact yD (zZ (p := ⟨m, 3, none⟩) (zZ (p := ⟨m, 2, none⟩) (zZ (p := ⟨m, 1, none⟩) (zZ (p := ⟨m, 0, none⟩) (yN z.out d.out (by decide)) (fun _ hk => hk.2) (.int .i64 U)) (fun _ hk => hk.2) (.int .i64 Y)) (fun _ hk => hk.2) (.int .i64 ad)) (fun _ hk => hk.2) (.slice ae I.length af)) (fun _ hk => ⟨hk.1.1.1.1.2, ⟨hk.1.1.1.2, ⟨hk.1.1.2, ⟨hk.1.1.1.1.1.2, hk.1.2⟩⟩⟩⟩)))⟩; have cx : Zab (Kd.R (Kd.int .i64) 2 ay w.heap.size (fun k_ => some k_ ≠ (.slice aG al.length aH : Value).ownBlock) (.slice J u.length L) u) := ⟨(by rw [hw]; exact (by (with_reducible repeat (first | apply zE | apply zD | apply zB)); exact zA (zJ (p := ⟨m, 3, none⟩) (zJ (p := ⟨m, 2, none⟩) (zJ (p := ⟨m, 1, none⟩) (zJ (p := ⟨m, 0, none⟩) (yE A.out d.out (by decide)) (fun _ hk => hk.2) (.int .i64 U)) (fun _ hk => hk.2) (.int .i64 Y)) (fun _ hk => hk.2) (.int .i64 ad)) (fun _ hk => hk.2) (.slice ae I.length af)) (fun _ hk => hk.1.2)))⟩; have cy : Zab (Kd.S (Kd.slice 2 (Kd.int .i64)) 22 ay w.heap.size (fun k_ => some k_ ≠ (.slice aG al.length aH : Value).ownBlock ∧ some k_ ≠ (.slice aP av.length aQ : Value).ownBlock ∧ some k_ ≠ (.slice J u.length L : Value).ownBlock ∧ aI ≤ k_) (.slice ae I.length af) I) := ⟨(by rw [hw]; exact (by (with_reducible repeat (first | apply yH | apply yI | apply yB)); exact yD (zZ (p := ⟨m, 3, none⟩) (zZ (p := ⟨m, 2, none⟩) (zZ (p := ⟨m, 1, none⟩) (zZ (p := ⟨m, 0, none⟩) (yN aa.out d.out (by decide)) (fun _ hk => hk.2) (.int .i64 U)) (fun _ hk => hk.2) (.int .i64 Y)) (fun _ hk => hk.2) (.int .i64 ad)) (fun _ hk => hk.2) (.slice ae I.length af)) (fun _ hk => ⟨hk.1.1.1.2, ⟨hk.1.1.2, ⟨hk.1.2, hk.1.1.1.1.2⟩⟩⟩)))⟩; have cz : Zab (ay.heap[Z]? = some (.cells #[.int .i64 x, .slice O s.length P] 24 (0, 0))) := ⟨(by rw [hw]; exact (by (with_reducible repeat (first | refine Zai ?_ _ | refine Zah ?_ | refine Zag ?_ _)); refine Zbb ?_ ai.out _; (with_reducible repeat (first | refine Zai ?_ _ | refine Zah ?_ | refine Zag ?_ _)); refine Zbb ?_ ai.out _; (with_reducible repeat (first | refine Zai ?_ _ | refine Zah ?_ | refine Zag ?_ _)); refine Zbb ?_ ai.out _; (with_reducible repeat (first | refine Zai ?_ _ | refine Zah ?_ | refine Zag ?_ _)); refine Zbb ?_ ai.out _; exact bP a.out))⟩; have cA : Zab (ay.heap[M]? = some (.cells #[.int .i64 D, .int .i64 E, .int .i64 G, .slice ab y.length ac] 27 (0, 0))) := ⟨(by rw [hw]; exact (by (with_reducible repeat (first | refine Zai ?_ _ | refine Zah ?_ | refine Zag ?_ _)); refine Zbb ?_ aj.out _; (with_reducible repeat (first | refine Zai ?_ _ | refine Zah ?_ | refine Zag ?_ _)); refine Zbb ?_ aj.out _; (with_reducible repeat (first | refine Zai ?_ _ | refine Zah ?_ | refine Zag ?_ _)); refine Zbb ?_ aj.out _; (with_reducible repeat (first | refine Zai ?_ _ | refine Zah ?_ | refine Zag ?_ _)); refine Zbb ?_ aj.out _; exact bP b.out))⟩; have cB : Zab (ay.heap[B]? = some (.cells #[.int .i64 T, .slice J u.length L] 32 (0, 0))) := ⟨(by rw [hw]; exact (by (with_reducible repeat (first | refine Zai ?_ _ | refine Zah ?_ | refine Zag ?_ _)); refine Zbb ?_ ak.out _; (with_reducible repeat (first | refine Zai ?_ _ | refine Zah ?_ | refine Zag ?_ _)); refine Zbb ?_ ak.out _; (with_reducible repeat (first | refine Zai ?_ _ | refine Zah ?_ | refine Zag ?_ _)); refine Zbb ?_ ak.out _; (with_reducible repeat (first | refine Zai ?_ _ | refine Zah ?_ | refine Zag ?_ _)); refine Zbb ?_ ak.out _; exact bP c.out))⟩; have cC : Zab (ay.heap[m]? = some (.cells #[.int .i64 U, .int .i64 Y, .int .i64 ad, .slice ae I.length af] 34 (0, 0))) := ⟨(by rw [hw]; exact (by (with_reducible repeat (first | refine Zai ?_ _ | refine Zah ?_ | refine Zag ?_ _)); refine Zbj (cs := #[.int .i64 U, .int .i64 Y, .int .i64 ad, .slice none 0 0]) ?_ 3 _ rfl; (with_reducible repeat (first | refine Zai ?_ _ | refine Zah ?_ | refine Zag ?_ _)); refine Zbj (cs := #[.int .i64 U, .int .i64 Y, .int .i64 0, .slice none 0 0]) ?_ 2 _ rfl; (with_reducible repeat (first | refine Zai ?_ _ | refine Zah ?_ | refine Zag ?_ _)); refine Zbj (cs := #[.int .i64 U, .int .i64 0, .int .i64 0, .slice none 0 0]) ?_ 1 _ rfl; (with_reducible repeat (first | refine Zai ?_ _ | refine Zah ?_ | refine Zag ?_ _)); refine Zbj (cs := #[.int .i64 0, .int .i64 0, .int .i64 0, .slice none 0 0]) ?_ 0 _ rfl; exact bP d.out))⟩; have cD : Zab (Below w.heap.size w ay) := ⟨(by rw [hw]; exact (bW))⟩; clear hw q z A aa a b c d HB; have q := cv; have z := cw; have A := cx; have aa := cy; have a := cz; have b := cA; have c := cB; have d := cC; have HB := cD; clear cv cw cx cy cz cA cB cC cD; obtain ⟨b4, b5⟩ := Zcg c.out; obtain ⟨b6, b7⟩ := frz2 c.out; obtain ⟨b8, b9, ca, cb⟩ := Zbk d.out; obtain ⟨cc, cd, ce, cf⟩ := frz4 d.out) | ((with_reducible refine Zal (f := 19) rfl ?_); refine Zbc (some 40) Tryd.func19 #[.agg #[.int .i64 T, .slice J u.length L], .agg #[.int .i64 U, .int .i64 Y, .int .i64 ad, .slice ae I.length af]] ?_; (with_reducible refine (Za2.calls k T _ _ u U Y ad (fun k_ => (((((some k_ ≠ (.slice aG al.length aH : Value).ownBlock ∧ (some k_ ≠ (.slice aP av.length aQ : Value).ownBlock ∧ (some k_ ≠ (.slice J u.length L : Value).ownBlock ∧ aI ≤ k_))) ∧ k_ ≠ Z) ∧ k_ ≠ M) ∧ k_ ≠ B) ∧ k_ ≠ m)) _ _ I aE aF ci _ ?side1 ?side2 ?side3 A24.out (tabW HTab.out)).mono ?_); (case side1 => exact cP ((zF A.out).2.2)); (case side2 => exact (zF A.out).2.1); (case side3 => exact Kd.S_V (yN (yN (yN (yN (aa.out) a.out (by decide)) b.out (by decide)) c.out (by decide)) d.out (by decide))); rintro e d2 ⟨rfl, hb⟩; refine ⟨_, rfl, ?_⟩; replace q := mA (zG (rP q.out) hb); replace z := mA (yG (sP z.out) hb); replace A := mA (zG (rP A.out) hb); replace aa := mA (yG (sP aa.out) hb); replace a := mA (blkB a.out hb); replace b := mA (blkB b.out hb); replace c := mA (blkB c.out hb); replace d := mA (blkB d.out hb); replace HB := mA (Zac (bW) hb); (try clear hb); (try clear hb2); (try clear hk); (try clear hi)))
 go_cut [56] (fun v56 wc => ∃ (kq : Nat) (az : Bool), v56 = .bool az ∧ Zab (Zax.j0 kq az x s D E G y T u U Y ad I = some r) ∧ Zab (kq ≤ k) ∧ Zab (Kd.R (Kd.int .i64) 2 wc w.heap.size (fun _ => True) (.slice J u.length L) u) ∧ Zab (Kd.S (Kd.slice 2 (Kd.int .i64)) 22 wc w.heap.size (fun k_ => some k_ ≠ ((.slice J u.length L) : Value).ownBlock ∧ aI ≤ k_) (.slice ae I.length af) I) ∧ Zab (wc.heap[Z]? = some (.cells #[.int .i64 x, (.slice O s.length P)] 24 (0, 0))) ∧ Zab (wc.heap[M]? = some (.cells #[.int .i64 D, .int .i64 E, .int .i64 G, (.slice ab y.length ac)] 27 (0, 0))) ∧ Zab (wc.heap[B]? = some (.cells #[.int .i64 T, (.slice J u.length L)] 32 (0, 0))) ∧ Zab (wc.heap[m]? = some (.cells #[.int .i64 U, .int .i64 Y, .int .i64 ad, (.slice ae I.length af)] 34 (0, 0))) ∧ Zab (Below w.heap.size w wc))
 case first =>
  have H := a4.out
  clear a4
  by_cases aM : aE = aC; rotate_left
  ·rw [if_neg aM] at H
   have aA : (aE == aC) = false := beq_eq_false_iff_ne.mpr aM
   have cp : (aE != aC) = true := bne_iff_ne.mpr aM
   (first | rw [aA] | (simp only [Zci, i32_w]; rw [aA]) | skip)
   have H' := mA H
   clear H
   go_wp2
   go_meet
   case rel => exact ⟨_, (true), (eW), H', ⟨by first | omega | exact Nat.le_refl _⟩, ⟨by (with_reducible repeat (first | apply zE | apply zD | apply zB)); exact zA A.out (fun _ hk => trivial)⟩, ⟨by (with_reducible repeat (first | apply yH | apply yI | apply yB)); exact yD aa.out (fun _ hk => ⟨hk.2.2.1, hk.2.2.2⟩)⟩, ⟨bP a.out⟩, ⟨bP b.out⟩, ⟨bP c.out⟩, ⟨bP d.out⟩, ⟨bW⟩⟩
  rw [if_pos aM] at H
  have aA : (aE == aC) = true := beq_iff_eq.mpr aM
  have cp : (aE != aC) = false := bne_eq_false_iff_eq.mpr aM
  clear aM
  (first | rw [aA] | (simp only [Zci, i32_w]; rw [aA]) | skip)
  by_cases aN : aF = aD; rotate_left
  ·rw [if_neg aN] at H
   have cq : (aF == aD) = false := beq_eq_false_iff_ne.mpr aN
   have cr : (aF != aD) = true := bne_iff_ne.mpr aN
   have H' := mA H
   clear H
   go_wp2
   go_meet
   case rel => exact ⟨_, (true), (eW), H', ⟨by first | omega | exact Nat.le_refl _⟩, ⟨by (with_reducible repeat (first | apply zE | apply zD | apply zB)); exact zA A.out (fun _ hk => trivial)⟩, ⟨by (with_reducible repeat (first | apply yH | apply yI | apply yB)); exact yD aa.out (fun _ hk => ⟨hk.2.2.1, hk.2.2.2⟩)⟩, ⟨bP a.out⟩, ⟨bP b.out⟩, ⟨bP c.out⟩, ⟨bP d.out⟩, ⟨bW⟩⟩
  rw [if_pos aN] at H
  have cq : (aF == aD) = true := beq_iff_eq.mpr aN
  have cr : (aF != aD) = false := bne_eq_false_iff_eq.mpr aN
  clear aN
  have H' := mA H
  clear H
  go_wp2
  go_meet
  case rel => exact ⟨_, ((ci != ch)), (eW), H', ⟨by first | omega | exact Nat.le_refl _⟩, ⟨by (with_reducible repeat (first | apply zE | apply zD | apply zB)); exact zA A.out (fun _ hk => trivial)⟩, ⟨by (with_reducible repeat (first | apply yH | apply yI | apply yB)); exact yD aa.out (fun _ hk => ⟨hk.2.2.1, hk.2.2.2⟩)⟩, ⟨bP a.out⟩, ⟨bP b.out⟩, ⟨bP c.out⟩, ⟨bP d.out⟩, ⟨bW⟩⟩
 case rest =>
  clear a4 cg bl bp bq bu bv bw bx bE bF bI bJ bM bN bO bQ bV bX bY bZ b4 b5 b8 b9 ca cb br bs bz bB bC bD bG bH bK bL bR bS bT bU b0 b1 b2 b3 b6 b7 cc cd ce cf
  obtain ⟨kq, az, rfl, HA, dM, j, l, a, b, c, d, HB⟩ := hcut
  cases kq with
  | zero => exact absurd HA.out (by simp [Zax.j0])
  | succ aR =>
   have H := HA.out
   clear HA
   simp only [Zax.j0] at H
   by_cases bm : az = true
   ·subst bm
    rw [if_pos rfl] at H
    exact absurd (oI H) (by rw [HTr_.out]; decide)
   replace bm := Bool.eq_false_iff.mpr bm
   subst bm
   rw [iF] at H
   obtain ⟨⟨a5, a6⟩, A61, H⟩ := bA H
   try dsimp only at H
   obtain ⟨cG, dd, H⟩ := bA H
   by_cases bn : cG = true; rotate_left
   ·replace bn := Bool.eq_false_iff.mpr bn
    subst bn
    rw [iF] at H
    exact absurd (oI H) (by rw [HTr_.out]; decide)
   subst bn
   rw [if_pos rfl] at H
   obtain ⟨⟨a7, a8, a9, ba⟩, A64, H⟩ := bA H
   try dsimp only at H
   obtain ⟨cH, de, H⟩ := bA H
   by_cases bo : cH = true; rotate_left
   ·replace bo := Bool.eq_false_iff.mpr bo
    subst bo
    rw [iF] at H
    exact absurd (oI H) (by rw [HTr_.out]; decide)
   subst bo
   rw [if_pos rfl] at H
   obtain rfl := oI H
   try go_wp2
   replace j := mA (zB j.out)
   replace l := mA (yB l.out)
   replace a := mA (Zah a.out)
   replace b := mA (Zah b.out)
   replace c := mA (Zah c.out)
   replace d := mA (Zah d.out)
   replace HB := mA (Zbe HB.out)
   refine start_ (n := 5) (S := fun w' => w'.cell? ⟨B, 0, none⟩ = some (.int .i64 T) ∧ w'.cell? ⟨B, 1, none⟩ = some (.slice J u.length L) ∧ w'.cell? ⟨Z, 0, none⟩ = some (.int .i64 x) ∧ w'.cell? ⟨Z, 1, none⟩ = some (.slice O s.length P)) (ds := []) #[false, false, false, false, false] (by kernel_rfl) rfl rfl ⟨bc c 0, bc c 1, bc a 0, bc a 1⟩ (fun hHeld => ?_)
   generalize wc.drew = w67 at j l a b c d HB hHeld ⊢
   refine takeS (i := 0) (N := some 57) (by kernel_rfl) hHeld ?_
   refine takeS (i := 1) (N := some 58) (by kernel_rfl) hHeld ?_
   refine one_ (i := 2) (N := some 59) #[true, true, true, false, false] rfl rfl (by kernel_rfl) (by decide) (fun K hK => ?_)
   refine goes_ Tryd.func11 (by kernel_rfl) rfl #[.agg #[.int .i64 x, .slice O s.length P]] (by rfl) rfl rfl (by (try simp only [List.map_toArray, List.map_cons, List.map_nil]); first | done | rfl | (simp only [List.length_drop, List.length_take]; rfl)) ?_
   with_reducible refine (Zb2.calls aR x _ _ s a5 a6 _ ?side1 ?side2 A61.out).mono ?_
   (case side1 => exact cP (zC ar.out HB.out))
   (case side2 => exact au.out)
   rintro e d3 ⟨dN, rfl, W, hb⟩
   refine ⟨_, rfl, ?_⟩
   replace l := mA (xI (sP l.out) (zY W) hb)
   have X := mA (zQ (yM W (yF (rP j.out))) (Zao (bW)))
   replace j := mA (yL (rP j.out) (zY W) hb)
   replace a := mA (blkB a.out hb)
   replace b := mA (blkB b.out hb)
   replace c := mA (blkB c.out hb)
   replace d := mA (blkB d.out hb)
   replace HB := mA (Zac (bW) hb)
   (try clear hb)
   (try clear hb2)
   (try clear hk)
   (try clear hi)
   (try clear W)
   obtain ⟨cI, cJ, cm⟩ := zH X.out
   (first | subst cm | (injection cm with an aJ ao; have aK := an.symm; have aL := ao.symm; clear an aJ ao; subst aK; subst aL))
   refine hK.out _ _ ⟨bc c 0, bc c 1, bc a 0, bc a 1⟩ (fun hHeld => ?_)
   clear hK K
   refine putS 59 ?_
   refine one_ (i := 3) (N := some 60) #[true, true, true, true, false] rfl rfl (by kernel_rfl) (by decide) (fun K hK => ?_)
   refine goes_ Tryd.func15 (by kernel_rfl) rfl #[.agg #[.int .i64 T, .slice J u.length L], .agg #[.int .i64 a5, .slice cI a6.length cJ]] (by rfl) rfl rfl (by (try simp only [List.map_toArray, List.map_cons, List.map_nil]); first | done | rfl | (simp only [List.length_drop, List.length_take]; rfl)) ?_
   with_reducible refine (Zcw.calls aR T _ _ u a5 _ _ a6 true _ ?side1 ?side2 ?side3 ?side4 dd.out).mono ?_
   (case side1 => exact cP ((zF j.out).2.2))
   (case side2 => exact (zF j.out).2.1)
   (case side3 => exact cP ((zF X.out).2.2))
   (case side4 => exact (zF X.out).2.1)
   rintro e df ⟨rfl, hb⟩
   refine ⟨_, rfl, ?_⟩
   replace j := mA (zG (rP j.out) hb)
   replace l := mA (yG (sP l.out) hb)
   replace X := mA (zG (rP X.out) hb)
   replace a := mA (blkB a.out hb)
   replace b := mA (blkB b.out hb)
   replace c := mA (blkB c.out hb)
   replace d := mA (blkB d.out hb)
   replace HB := mA (Zac (bW) hb)
   (try clear hb)
   (try clear hb2)
   (try clear hk)
   (try clear hi)
   refine hK.out _ _ ⟨bc c 0, bc c 1, bc a 0, bc a 1⟩ (fun hHeld => ?_)
   clear hK K
   refine putS 60 ?_
   refine Za6 (i := 4) (N := some 61) (by kernel_rfl) ?_
   refine done_ (by kernel_rfl) ?_
   try go_wp2
   replace j := mA (zB j.out)
   replace l := mA (yB l.out)
   replace X := mA (zB X.out)
   replace a := mA (Zah a.out)
   replace b := mA (Zah b.out)
   replace c := mA (Zah c.out)
   replace d := mA (Zah d.out)
   replace HB := mA (Zbe HB.out)
   refine start_ (n := 5) (S := fun w' => w'.cell? ⟨m, 0, none⟩ = some (.int .i64 U) ∧ w'.cell? ⟨m, 1, none⟩ = some (.int .i64 Y) ∧ w'.cell? ⟨m, 2, none⟩ = some (.int .i64 ad) ∧ w'.cell? ⟨m, 3, none⟩ = some (.slice ae I.length af) ∧ w'.cell? ⟨M, 0, none⟩ = some (.int .i64 D) ∧ w'.cell? ⟨M, 1, none⟩ = some (.int .i64 E) ∧ w'.cell? ⟨M, 2, none⟩ = some (.int .i64 G) ∧ w'.cell? ⟨M, 3, none⟩ = some (.slice ab y.length ac)) (ds := []) #[false, false, false, false, false] (by kernel_rfl) rfl rfl ⟨bc d 0, bc d 1, bc d 2, bc d 3, bc b 0, bc b 1, bc b 2, bc b 3⟩ (fun hHeld => ?_)
   generalize df.drew = w71 at j l X a b c d HB hHeld ⊢
   refine takeS (i := 0) (N := some 62) (by kernel_rfl) hHeld ?_
   refine takeS (i := 1) (N := some 63) (by kernel_rfl) hHeld ?_
   refine one_ (i := 2) (N := some 64) #[true, true, true, false, false] rfl rfl (by kernel_rfl) (by decide) (fun K hK => ?_)
   refine goes_ Tryd.func12 (by kernel_rfl) rfl #[.agg #[.int .i64 D, .int .i64 E, .int .i64 G, .slice ab y.length ac]] (by rfl) rfl rfl (by (try simp only [List.map_toArray, List.map_cons, List.map_nil]); first | done | rfl | (simp only [List.length_drop, List.length_take]; rfl)) ?_
   with_reducible refine (Zbz.calls aR D E G _ _ y a7 a8 a9 ba _ ?side1 ?side2 A64.out).mono ?_
   (case side1 => exact cP (zC aw.out HB.out))
   (case side2 => exact ax.out)
   rintro e d4 ⟨dO, rfl, W, hb⟩
   refine ⟨_, rfl, ?_⟩
   obtain ⟨dA, aY⟩ := sizeI hb
   have aB := mA (xE (xA (xA (xA (Kd.S_newI W aY) (yF (rP j.out))) (Kd.S_lt (sP l.out))) (yF (rP X.out))) (Zao (bW)))
   replace j := mA (zG (rP j.out) hb)
   replace l := mA (Kd.S_elderI (sP l.out) (Kd.S_base W) hb aY)
   replace X := mA (zG (rP X.out) hb)
   replace a := mA (blkB a.out hb)
   replace b := mA (blkB b.out hb)
   replace c := mA (blkB c.out hb)
   replace d := mA (blkB d.out hb)
   replace HB := mA (Zac (bW) hb)
   (try clear hb)
   (try clear hb2)
   (try clear hk)
   (try clear hi)
   (try clear W)
   obtain ⟨cK, cL, cn⟩ := xB aB.out
   (first | subst cn | (injection cn with an aJ ao; have aK := an.symm; have aL := ao.symm; clear an aJ ao; subst aK; subst aL))
   refine hK.out _ _ ⟨bc d 0, bc d 1, bc d 2, bc d 3, bc b 0, bc b 1, bc b 2, bc b 3⟩ (fun hHeld => ?_)
   clear hK K
   refine putS 64 ?_
   refine one_ (i := 3) (N := some 65) #[true, true, true, true, false] rfl rfl (by kernel_rfl) (by decide) (fun K hK => ?_)
   refine goes_ Tryd.func16 (by kernel_rfl) rfl #[.agg #[.int .i64 U, .int .i64 Y, .int .i64 ad, .slice ae I.length af], .agg #[.int .i64 a7, .int .i64 a8, .int .i64 a9, .slice cK ba.length cL]] (by rfl) rfl rfl (by (try simp only [List.map_toArray, List.map_cons, List.map_nil]); first | done | rfl | (simp only [List.length_drop, List.length_take]; rfl)) ?_
   with_reducible refine (Zcn.calls aR U Y ad _ _ I a7 a8 a9 _ _ ba true _ ?side1 ?side2 ?side3 ?side4 de.out).mono ?_
   (case side1 => exact cP ((yU l.out).2.2))
   (case side2 => exact (yU l.out).2.1)
   (case side3 => exact cP ((yU aB.out).2.2))
   (case side4 => exact (yU aB.out).2.1)
   rintro e d5 ⟨rfl, hb⟩
   refine ⟨_, rfl, ?_⟩
   replace j := mA (zG (rP j.out) hb)
   replace l := mA (yG (sP l.out) hb)
   replace X := mA (zG (rP X.out) hb)
   replace aB := mA (yG (sP aB.out) hb)
   replace a := mA (blkB a.out hb)
   replace b := mA (blkB b.out hb)
   replace c := mA (blkB c.out hb)
   replace d := mA (blkB d.out hb)
   replace HB := mA (Zac (bW) hb)
   (try clear hb)
   (try clear hb2)
   (try clear hk)
   (try clear hi)
   refine hK.out _ _ ⟨bc d 0, bc d 1, bc d 2, bc d 3, bc b 0, bc b 1, bc b 2, bc b 3⟩ (fun hHeld => ?_)
   clear hK K
   refine putS 65 ?_
   refine Za6 (i := 4) (N := some 66) (by kernel_rfl) ?_
   refine done_ (by kernel_rfl) ?_
   try go_wp2
   go_ret
   exact ⟨eW, bW⟩
end Go.Proofs.YtlmicipfikammaaDoor.P
end
section
namespace Go.Proofs.YtlmicipfikammaaDoor.Op
open Go.RowKit Go.Proofs.YtlmicipfikammaaDoorW.PrintWords Go.Proofs.YtlmicipfikammaaDoorW.PrintLast Go.Proofs.YtlmicipfikammaaDoorW.PrintMore
open Kd
/-- What is read at type t lies in memory as kind d says. -/
def Opens {α : Type} (P : Program) (t : TypeId) (d : Kd α) (ok : α → Prop) : Prop :=
  ∀ (H : Type) (enc : TypeId × Value → H) (w : World) (base : Nat) (held : Bool) (fuel : Nat) (cs : List Value) (x : DataW H × List MemPlace),
    DataW.trod enc P w base (fun _ => true) held fuel t cs = some x → ∃ a, d.K w a cs ∧ ok a
theorem opens_int {P : Program} {t : TypeId} {k : IntKind} (ht : P.underlying t = some (.int k)) : Opens P t (Kd.int k) (fun n => (Lit.int k n).wf = true) := by
  intro H enc w base held fuel cs x h
  obtain ⟨n, rfl, _, hw⟩ := DataW.trod_int ht h
  exact ⟨n, rfl, hw⟩
theorem opens_slice {α : Type} {P : Program} {t e : TypeId} {d : Kd α} {ok : α → Prop} (ht : P.underlying t = some (.slice e)) (hc : P.cellsOf e = d.sz) (he : Opens P e d ok) :
    Opens P t (Kd.slice e d) (fun xs => xs.length ≤ maxLen ∧ ∀ x ∈ xs, ok x) := by
  intro H enc w base held fuel cs x h
  rcases DataW.trod_slice ht h with ⟨rfl, _⟩ | ⟨a, len, cap, elems, rest, n, _, rfl, _, hb, hl, hm, hlen, hel, _, _⟩
  · exact ⟨[], ⟨none, 0, rfl, Nat.le_refl _, rfl, by simp, fun h => absurd h (by simp)⟩, by simp, by simp⟩
  · have each : ∀ i, i < len → ∃ y : α × List Value, y.2.length = d.sz ∧ d.K w y.1 y.2 ∧ ok y.1 ∧ ∀ j u, y.2[j]? = some u → w.cell? (a.add (i * d.sz + j)) = some u := by
      intro i hi
      have h1 := hel i hi
      rw [List.getElem?_eq_getElem (by omega), Option.bind_eq_some_iff] at h1
      obtain ⟨cs', h2, h3⟩ := h1
      obtain ⟨y, hk, ho⟩ := he _ _ _ _ _ _ _ _ h3
      obtain ⟨_, h5, h6⟩ := World.cells?_some h2
      refine ⟨(y, cs'), h5.trans hc, hk, ho, fun j u hj => ?_⟩
      have hjl : j < P.cellsOf e := by rw [← h5]; exact (List.getElem?_eq_some_iff.1 hj).1
      have h7 := h6 j hjl
      rw [hj, hc] at h7
      rw [← Addr.add_add]
      exact h7
    have hy := fun i : Fin len => Classical.choose_spec (each i.1 i.2)
    generalize hY : (fun i : Fin len => Classical.choose (each i.1 i.2)) = y at hy
    have hy' : ∀ i : Fin len, (y i).2.length = d.sz ∧ d.K w (y i).1 (y i).2 ∧ ok (y i).1 ∧ ∀ j u, (y i).2[j]? = some u → w.cell? (a.add (i.1 * d.sz + j)) = some u := by
      intro i; rw [← hY]; exact hy i
    clear hy hY
    have hln : (List.ofFn fun i => (y i).1).length = len := by simp
    refine ⟨List.ofFn fun i => (y i).1, ⟨some a, cap, by rw [hln], by rw [hln]; exact hl, ?_⟩, by rw [hln]; omega, ?_⟩
    · refine ⟨rfl, by rw [hln]; unfold maxLen at hm; omega, fun _ => ⟨a, rfl, fun j p hj => ?_⟩⟩
      have hjl : j < len := by rw [← hln]; exact (List.getElem?_eq_some_iff.1 hj).1
      rw [List.getElem?_ofFn, dif_pos hjl, Option.some.injEq] at hj
      subst hj
      obtain ⟨q1, q2, _, q4⟩ := hy' ⟨j, hjl⟩
      exact ⟨(y ⟨j, hjl⟩).2, q1, q2, fun i u hi => q4 i u hi⟩
    · intro x hx
      rw [List.mem_ofFn] at hx
      obtain ⟨i, rfl⟩ := hx
      exact (hy' i).2.2.1
/-- An argument that is a slice. -/
theorem open_row {α : Type} {P : Program} {t e : TypeId} {d : Kd α} {ok : List α → Prop} {H : Type} {enc : TypeId × Value → H} {w : World} {base fuel : Nat} {held : Bool} {v : Value} {x : DataW H × List MemPlace}
    (h : DataW.trod enc P w base (fun _ => true) held fuel t [v] = some x) (hs : Opens P t (Kd.slice e d) ok) : ∃ A c xs, v = .slice A xs.length c ∧ xs.length ≤ c ∧ d.C w A xs.length xs ∧ ok xs := by
  obtain ⟨xs, ⟨A, c, hv, hl, hr⟩, ho⟩ := hs _ _ _ _ _ _ _ _ h
  exact ⟨A, c, xs, by simpa using hv, hl, hr, ho⟩
end Go.Proofs.YtlmicipfikammaaDoor.Op
end
section
namespace Go.Proofs.YtlmicipfikammaaDoor.U
open Go.RowKit Go.Proofs.YtlmicipfikammaaDoorW.PrintWords Go.Proofs.YtlmicipfikammaaDoorW.PrintLast
open Kd
set_option linter.unusedVariables false
theorem w64 {n : Int} (h0 : -9223372036854775808 ≤ n) (h1 : n ≤ 9223372036854775807) : wrap64 n = n := by unfold wrap64; omega
theorem w64s {n : Nat} (h : n < 9223372036854775807) : wrap64 ((n : Int) + 1) = ((n + 1 : Nat) : Int) := by unfold wrap64; omega
theorem rdn (l : List Int) (i : Nat) : rd l (i : Int) = l.getD i 0 := rfl
theorem rd_lt {l : List Int} {i : Nat} (h : i < l.length) : rd l (i : Int) = l[i] := by
  show l.getD i 0 = _; rw [List.getD_eq_getElem?_getD, List.getElem?_eq_getElem h]; rfl
theorem Zc0 {α : Type} {d : α} {l : List α} {i : Nat} (h : i < l.length) : rdOf d l (i : Int) = l[i] := by
  show l.getD i d = _; rw [List.getD_eq_getElem?_getD, List.getElem?_eq_getElem h]; rfl
theorem Ev.now' {α : Type} {g : Nat → Option α} {r : α} (h : ∀ k, g k = some r) : Ev g r := ⟨0, fun k _ => h k⟩
/-- One round more, the loop's own equation still to be unfolded. -/
theorem Ev.round {α : Type} {g : Nat → Option α} {r : α} (h : Ev (fun k => g (k + 1)) r) : Ev g r := by
  obtain ⟨K, h⟩ := h
  refine ⟨K + 1, fun n hn => ?_⟩
  obtain ⟨m, rfl⟩ : ∃ m, n = m + 1 := ⟨n - 1, by omega⟩
  exact h m (by omega)
theorem Ev.here {α β : Type} {g : Option α} {f : Nat → α → Option β} {a : α} {r : β} (h : g = some a) (k : Ev (fun n => f n a) r) : Ev (fun n => g.bind (f n)) r := by
  subst h; exact k
theorem Ev.yes {α : Type} {c : Prop} [Decidable c] {A B : Nat → Option α} {r : α} (h : c) (k : Ev A r) : Ev (fun n => if c then A n else B n) r := Ev.congr (fun _ => if_pos h) k
theorem Ev.no {α : Type} {c : Prop} [Decidable c] {A B : Nat → Option α} {r : α} (h : ¬ c) (k : Ev B r) : Ev (fun n => if c then A n else B n) r := Ev.congr (fun _ => if_neg h) k
/-- An upward loop over an index: what it comes to from i on, if what one round does is known. -/
theorem Ev.up {σ ρ : Type} (L : Nat → σ → Int → Option ρ) (n : Nat) (R : Nat → σ → ρ) (I : Nat → σ → Prop)
    (hend : ∀ s, I n s → Ev (fun k => L k s (n : Int)) (R n s))
    (hstep : ∀ i s, i < n → I i s → (∀ s', I (i + 1) s' → Ev (fun k => L k s' ((i + 1 : Nat) : Int)) (R (i + 1) s')) → Ev (fun k => L k s (i : Int)) (R i s)) :
    ∀ i s, i ≤ n → I i s → Ev (fun k => L k s (i : Int)) (R i s) := by
  intro i s hi hI
  obtain ⟨d, hd⟩ : ∃ d, n - i = d := ⟨_, rfl⟩
  induction d generalizing i s with
  | zero =>
    have : i = n := by omega
    subst this
    exact hend s hI
  | succ d ih => exact hstep i s (by omega) hI (fun s' h' => ih (i + 1) s' (by omega) h' (by omega))
/-- The rounds come to something that Q says. -/
def EvP {α : Type} (g : Nat → Option α) (Q : α → Prop) : Prop := ∃ r, Ev g r ∧ Q r
theorem EvP.of {α : Type} {g : Nat → Option α} {Q : α → Prop} {r : α} (h : Ev g r) (q : Q r) : EvP g Q := ⟨r, h, q⟩
theorem EvP.ret {α : Type} {Q : α → Prop} {r : α} (q : Q r) : EvP (fun _ => some r) Q := ⟨r, Ev.now r, q⟩
theorem EvP.mono {α : Type} {g : Nat → Option α} {Q Q' : α → Prop} (h : EvP g Q) (k : ∀ r, Q r → Q' r) : EvP g Q' := by
  obtain ⟨r, h, q⟩ := h; exact ⟨r, h, k r q⟩
theorem EvP.round {α : Type} {g : Nat → Option α} {Q : α → Prop} (h : EvP (fun k => g (k + 1)) Q) : EvP g Q := by
  obtain ⟨r, h, q⟩ := h; exact ⟨r, Ev.round h, q⟩
theorem EvP.yes {α : Type} {c : Prop} [Decidable c] {A B : Nat → Option α} {Q : α → Prop} (h : c) (k : EvP A Q) : EvP (fun n => if c then A n else B n) Q := by
  obtain ⟨r, k, q⟩ := k; exact ⟨r, Ev.yes h k, q⟩
theorem EvP.no {α : Type} {c : Prop} [Decidable c] {A B : Nat → Option α} {Q : α → Prop} (h : ¬ c) (k : EvP B Q) : EvP (fun n => if c then A n else B n) Q := by
  obtain ⟨r, k, q⟩ := k; exact ⟨r, Ev.no h k, q⟩
theorem EvP.here {α β : Type} {g : Option α} {f : Nat → α → Option β} {a : α} {Q : β → Prop} (h : g = some a) (k : EvP (fun n => f n a) Q) : EvP (fun n => g.bind (f n)) Q := by
  obtain ⟨r, k, q⟩ := k; exact ⟨r, Ev.here h k, q⟩
theorem EvP.bind {α β : Type} {g : Nat → Option α} {f : Nat → α → Option β} {a : α} {Q : β → Prop} (h : Ev g a) (k : EvP (fun n => f n a) Q) : EvP (fun n => (g n).bind (f n)) Q := by
  obtain ⟨r, k, q⟩ := k; exact ⟨r, Ev.bind h k, q⟩
theorem EvP.bindP {α β : Type} {g : Nat → Option α} {f : Nat → α → Option β} {R : α → Prop} {Q : β → Prop} (h : EvP g R) (k : ∀ a, R a → EvP (fun n => f n a) Q) : EvP (fun n => (g n).bind (f n)) Q := by
  obtain ⟨a, h, q⟩ := h; exact EvP.bind h (k a q)
theorem EvP.up {σ ρ : Type} (L : Nat → σ → Int → Option ρ) (Q : ρ → Prop) (n : Nat) (I : Nat → σ → Prop)
    (hend : ∀ s, I n s → EvP (fun k => L k s (n : Int)) Q)
    (hstep : ∀ i s, i < n → I i s → (∀ s', I (i + 1) s' → EvP (fun k => L k s' ((i + 1 : Nat) : Int)) Q) → EvP (fun k => L k s (i : Int)) Q) :
    ∀ i s, i ≤ n → I i s → EvP (fun k => L k s (i : Int)) Q := by
  intro i s hi hI
  obtain ⟨d, hd⟩ : ∃ d, n - i = d := ⟨_, rfl⟩
  induction d generalizing i s with
  | zero =>
    have : i = n := by omega
    subst this
    exact hend s hI
  | succ d ih => exact hstep i s (by omega) hI (fun s' h' => ih (i + 1) s' (by omega) h' (by omega))
/-- How many are still false. -/
def Zbh (l : List Bool) : Nat := l.count false
theorem falses_set {l : List Bool} {i : Nat} (hi : i < l.length) (h : l[i] = false) : Zbh (l.set i true) + 1 = Zbh l := by
  induction l generalizing i with
  | nil => simp at hi
  | cons b l ih =>
    cases i with
    | zero =>
      simp only [List.getElem_cons_zero] at h
      subst h
      simp [Zbh]
    | succ i =>
      simp only [List.getElem_cons_succ] at h
      have := ih (by simpa using hi) h
      simp only [List.set_cons_succ, Zbh, List.count_cons] at this ⊢
      omega
end Go.Proofs.YtlmicipfikammaaDoor.U
end
section
namespace Go.Proofs.YtlmicipfikammaaDoor.U
theorem nodup_sub_len {α : Type} [DecidableEq α] : ∀ {l l' : List α}, l.Nodup → (∀ x ∈ l, x ∈ l') → l.length ≤ l'.length
  | [], l', _, _ => by simp
  | a :: t, l', hn, hs => by
    have hn' := List.nodup_cons.1 hn
    have h1 : a ∈ l' := hs a (by simp)
    have h2 : ∀ x ∈ t, x ∈ l'.erase a := fun x hx => (List.mem_erase_of_ne (fun e => hn'.1 (by rw [← e]; exact hx))).2 (hs x (by simp [hx]))
    have h3 := nodup_sub_len hn'.2 h2
    have h4 := List.length_erase_of_mem h1
    have h5 := List.length_pos_of_mem h1
    simp only [List.length_cons]
    omega
abbrev Lang := List Nat → Bool
/-- The words that a machine accepts from a state; letters are the numbers below L. -/
def accW (L : Nat) (nxt : Nat → Nat → Option Nat) (good : Nat → Bool) : Nat → Lang
  | s, [] => good s
  | s, a :: w => decide (a < L) && match nxt s a with
    | none => false
    | some t => accW L nxt good t w
def der (q : Lang) (a : Nat) : Lang := fun w => q (a :: w)
def emp (q : Lang) : Prop := ∀ w, q w = false
theorem der_none {L : Nat} {nxt : Nat → Nat → Option Nat} {good : Nat → Bool} {s a : Nat} (h : nxt s a = none) : emp (der (accW L nxt good s) a) := by
  intro w
  simp [der, accW, h]
theorem der_some {L : Nat} {nxt : Nat → Nat → Option Nat} {good : Nat → Bool} {s a t : Nat} (ha : a < L) (h : nxt s a = some t) : der (accW L nxt good s) a = accW L nxt good t := by
  funext w
  simp [der, accW, h, ha]
open Classical in
/-- Where a language stands in a list. -/
noncomputable def posOf (q : Lang) (l : List Lang) : Option Nat := l.findIdx? (fun x => decide (x = q))
open Classical in
noncomputable def cStep (q : Lang) (st : List Lang × List Int) (a : Nat) : List Lang × List Int :=
  if emp (der q a) then (st.1, st.2 ++ [-1])
  else match posOf (der q a) st.1 with
    | some k => (st.1, st.2 ++ [(k : Int)])
    | none => (st.1 ++ [der q a], st.2 ++ [(st.1.length : Int)])
noncomputable def cRow (L : Nat) (q : Lang) (qs : List Lang) : List Lang × List Int := (List.range L).foldl (cStep q) (qs, [])
noncomputable def cRun (L : Nat) : Nat → Nat → List Lang → List (List Int) → Option (List Lang × List (List Int))
  | 0, _, _, _ => none
  | f + 1, i, qs, rows => match qs[i]? with
    | some q => cRun L f (i + 1) (cRow L q qs).1 (rows ++ [(cRow L q qs).2])
    | none => some (qs, rows)
/-- The least machine of a language: its states' languages, in the order in which they are found, and its rows. -/
def IsLeast (L : Nat) (q : Lang) (r : List Lang × List (List Int)) : Prop := ∃ f, cRun L f 0 [q] [] = some r
section
variable (L : Nat) (nxt : Nat → Nat → Option Nat) (cls : Nat → Int)
end
section
variable {L n : Nat} {nxt : Nat → Nat → Option Nat} {good : Nat → Bool} {V : Nat → Prop} {cls : Nat → Int}
end
end Go.Proofs.YtlmicipfikammaaDoor.U
end
section
namespace Go.Proofs.YtlmicipfikammaaDoor.U
/-- What stands in a row for a language: -1 for no word, or the language's number. -/
def Ent (qs : List Lang) (p : Lang) (t : Int) : Prop := (t = -1 ∧ emp p) ∨ ∃ k : Nat, t = k ∧ qs[k]? = some p ∧ ¬ emp p
theorem Ent.more {qs ext : List Lang} {p : Lang} {t : Int} (h : Ent qs p t) : Ent (qs ++ ext) p t := by
  rcases h with h | ⟨k, h1, h2, h3⟩
  · exact .inl h
  · exact .inr ⟨k, h1, by rw [List.getElem?_append_left (List.getElem?_eq_some_iff.1 h2).1]; exact h2, h3⟩
end Go.Proofs.YtlmicipfikammaaDoor.U
end
section
namespace Go.Proofs.YtlmicipfikammaaDoor.U
open Go.RowKit Go.Proofs.YtlmicipfikammaaDoor.P Go.Proofs.YtlmicipfikammaaDoorW.PrintWords Go.Proofs.YtlmicipfikammaaDoorW.PrintLast
open Kd
set_option linter.unusedVariables false
theorem toS (x0 : List Int) (hn : x0.length ≤ 35184372088832) : Ev (fun k => Zbq.f k x0) x0 := by
  have key := Ev.up (fun k s i => Zbq.l0 k x0 s i) x0.length (fun _ _ => x0) (fun i s => s.length = x0.length ∧ ∀ j, j < i → s[j]? = x0[j]?)
    (fun s ⟨h1, h2⟩ => by
      refine Ev.round ?_
      simp only [Zbq.l0]
      refine Ev.no (by omega) ?_
      have : s = x0 := List.ext_getElem? fun j => by
        by_cases hj : j < x0.length
        · exact h2 j hj
        · rw [List.getElem?_eq_none (by omega), List.getElem?_eq_none (by omega)]
      rw [this]
      exact Ev.now _)
    (fun i s hi ⟨h1, h2⟩ ih => by
      refine Ev.round ?_
      simp only [Zbq.l0]
      refine Ev.yes (by omega) (Ev.yes (by omega) (Ev.yes (by omega) ?_))
      rw [w64s (by omega)]
      refine ih _ ⟨by simp [h1], fun j hj => ?_⟩
      rw [Int.toNat_natCast, rd_lt hi]
      by_cases e : j = i
      · subst e
        rw [List.getElem?_set_self (by omega), List.getElem?_eq_getElem hi]
      · rw [List.getElem?_set_ne (by omega)]
        exact h2 j (by omega))
  unfold Zbq.f
  refine Ev.yes (by omega) (Ev.yes (by omega) ?_)
  have := key 0 (List.replicate x0.length 0) (by omega) ⟨by simp, fun j hj => absurd hj (by omega)⟩
  simpa using this
theorem toSS (x0 : List (List Int)) (hn : x0.length ≤ 1048576) (hr : ∀ x ∈ x0, x.length ≤ 1048576) : Ev (fun k => Zbr.f k x0) x0 := by
  have key := Ev.up (fun k s i => Zbr.l0 k x0 s i) x0.length (fun _ _ => x0) (fun i s => s.length = x0.length ∧ ∀ j, j < i → s[j]? = x0[j]?)
    (fun s ⟨h1, h2⟩ => by
      refine Ev.round ?_
      simp only [Zbr.l0]
      refine Ev.no (by omega) ?_
      have : s = x0 := List.ext_getElem? fun j => by
        by_cases hj : j < x0.length
        · exact h2 j hj
        · rw [List.getElem?_eq_none (by omega), List.getElem?_eq_none (by omega)]
      rw [this]
      exact Ev.now _)
    (fun i s hi ⟨h1, h2⟩ ih => by
      refine Ev.round ?_
      simp only [Zbr.l0]
      refine Ev.yes (by omega) (Ev.yes (by omega) ?_)
      have hg : Zae x0 (i : Int) = x0[i] := Zc0 (d := []) hi
      rw [hg]
      refine Ev.bind (toS x0[i] (by have := hr _ (List.getElem_mem hi); omega)) (Ev.yes (by omega) ?_)
      rw [w64s (by omega)]
      refine ih _ ⟨by simp [h1], fun j hj => ?_⟩
      rw [Int.toNat_natCast]
      by_cases e : j = i
      · subst e
        rw [List.getElem?_set_self (by omega), List.getElem?_eq_getElem hi]
      · rw [List.getElem?_set_ne (by omega)]
        exact h2 j (by omega))
  unfold Zbr.f
  refine Ev.yes (by omega) (Ev.yes (by omega) ?_)
  have := key 0 (List.replicate x0.length []) (by omega) ⟨by simp, fun j hj => absurd hj (by omega)⟩
  simpa using this
theorem eqS (a b : List Int) (hn : a.length ≤ 9223372036854775806) : Ev (fun k => Zbg.f k a b) (decide (a = b)) := by
  unfold Zbg.f
  by_cases hl : a.length = b.length
  · refine Ev.yes (by omega) ?_
    have key := Ev.up (fun k (_ : Unit) i => Zbg.l0 k a b i) a.length (fun _ _ => decide (a = b)) (fun i _ => ∀ j, j < i → a[j]? = b[j]?)
      (fun _ h2 => by
        refine Ev.round ?_
        simp only [Zbg.l0]
        refine Ev.no (by omega) ?_
        have : a = b := List.ext_getElem? fun j => by
          by_cases hj : j < a.length
          · exact h2 j hj
          · rw [List.getElem?_eq_none (by omega), List.getElem?_eq_none (by omega)]
        rw [decide_eq_true this]
        exact Ev.now _)
      (fun i _ hi h2 ih => by
        refine Ev.round ?_
        simp only [Zbg.l0]
        refine Ev.yes (by omega) (Ev.yes (by omega) (Ev.yes (by omega) ?_))
        rw [rd_lt hi, rd_lt (by omega : i < b.length), w64s (by omega)]
        by_cases e : a[i] = b[i]
        · refine Ev.yes e (ih () fun j hj => ?_)
          by_cases e' : j = i
          · subst e'
            rw [List.getElem?_eq_getElem hi, List.getElem?_eq_getElem (by omega), e]
          · exact h2 j (by omega)
        · refine Ev.no e ?_
          rw [decide_eq_false (fun h => e (by subst h; rfl))]
          exact Ev.now _)
    have := key 0 () (by omega) (fun j hj => absurd hj (by omega))
    simpa using this
  · refine Ev.no (by omega) ?_
    rw [decide_eq_false (fun h => hl (by rw [h]))]
    exact Ev.now _
theorem eqSS (a b : List (List Int)) (hn : a.length ≤ 9223372036854775806) (hr : ∀ x ∈ a, x.length ≤ 9223372036854775806) : Ev (fun k => Zbm.f k a b) (decide (a = b)) := by
  unfold Zbm.f
  by_cases hl : a.length = b.length
  · refine Ev.yes (by omega) ?_
    have key := Ev.up (fun k (_ : Unit) i => Zbm.l0 k a b i) a.length (fun _ _ => decide (a = b)) (fun i _ => ∀ j, j < i → a[j]? = b[j]?)
      (fun _ h2 => by
        refine Ev.round ?_
        simp only [Zbm.l0]
        refine Ev.no (by omega) ?_
        have : a = b := List.ext_getElem? fun j => by
          by_cases hj : j < a.length
          · exact h2 j hj
          · rw [List.getElem?_eq_none (by omega), List.getElem?_eq_none (by omega)]
        rw [decide_eq_true this]
        exact Ev.now _)
      (fun i _ hi h2 ih => by
        refine Ev.round ?_
        simp only [Zbm.l0]
        refine Ev.yes (by omega) (Ev.yes (by omega) (Ev.yes (by omega) ?_))
        have hg : Zae a (i : Int) = a[i] := Zc0 (d := []) hi
        have c : Zae b (i : Int) = b[i] := Zc0 (d := []) (by omega)
        rw [hg, c, w64s (by omega)]
        refine Ev.bind (eqS a[i] b[i] (hr _ (List.getElem_mem hi))) ?_
        by_cases e : a[i] = b[i]
        · rw [decide_eq_true e]
          refine Ev.yes rfl (ih () fun j hj => ?_)
          by_cases e' : j = i
          · subst e'
            rw [List.getElem?_eq_getElem hi, List.getElem?_eq_getElem (by omega), e]
          · exact h2 j (by omega)
        · rw [decide_eq_false e]
          refine Ev.no (by simp) ?_
          rw [decide_eq_false (fun h => e (by subst h; rfl))]
          exact Ev.now _)
    have := key 0 () (by omega) (fun j hj => absurd hj (by omega))
    simpa using this
  · refine Ev.no (by omega) ?_
    rw [decide_eq_false (fun h => hl (by rw [h]))]
    exact Ev.now _
/-- The size of a list of lists as the laws count it. -/
def sz2 (x : List (List Int)) : Nat := x.length + (x.map List.length).sum
theorem szSS (x0 : List (List Int)) (hn : x0.length ≤ maxLen) (hr : ∀ x ∈ x0, x.length ≤ maxLen) (a : Nat) (ha : a ≤ 1048576) :
    Ev (fun k => Zbl.f k x0 a) (if sz2 x0 ≤ a then ((a - sz2 x0 : Nat) : Int) else -1) := by
  unfold maxLen at hn hr
  have hrd : ∀ i, i < x0.length → Zae x0 (i : Int) = x0.getD i [] := fun i hi => rfl
  have key := Ev.up (fun k (s : Nat) i => Zbl.l0 k x0 (s : Int) i) x0.length
    (fun i s => if ((x0.drop i).map List.length).sum ≤ s then ((s - ((x0.drop i).map List.length).sum : Nat) : Int) else -1) (fun _ s => s ≤ 1048576)
    (fun s hs => by
      refine Ev.round ?_
      simp only [Zbl.l0]
      refine Ev.no (by omega) ?_
      simp only [List.drop_length, List.map_nil, List.sum_nil, Nat.zero_le, if_true, Nat.sub_zero]
      exact Ev.now _)
    (fun i s hi hs ih => by
      refine Ev.round ?_
      simp only [Zbl.l0]
      refine Ev.yes (by omega) (Ev.yes (by omega) ?_)
      have hg : Zae x0 (i : Int) = x0[i] := Zc0 (d := []) hi
      rw [hg, w64s (by omega)]
      have hx := hr _ (List.getElem_mem hi)
      have hd : x0.drop i = x0[i] :: x0.drop (i + 1) := List.drop_eq_getElem_cons hi
      rw [hd, List.map_cons, List.sum_cons]
      have hw : wrap64 ((s : Int) - (x0[i].length : Int)) = (s : Int) - (x0[i].length : Int) := w64 (by omega) (by omega)
      have hf : Zb6.f x0[i] (s : Int) = some (if x0[i].length ≤ s then ((s - x0[i].length : Nat) : Int) else -1) := by
        unfold Zb6.f
        rw [hw]
        by_cases h : x0[i].length ≤ s
        · rw [if_neg (by omega), if_pos h]; congr 1; omega
        · rw [if_pos (by omega), if_neg h]
      refine Ev.here hf ?_
      by_cases h : x0[i].length ≤ s
      · rw [if_pos h]
        refine Ev.no (by omega) ?_
        have := ih (s - x0[i].length) (by omega)
        by_cases h2 : ((x0.drop (i + 1)).map List.length).sum ≤ s - x0[i].length
        · rw [if_pos h2] at this
          rw [if_pos (by omega), show s - (x0[i].length + ((x0.drop (i + 1)).map List.length).sum) = s - x0[i].length - ((x0.drop (i + 1)).map List.length).sum from by omega]
          exact this
        · rw [if_neg h2] at this
          rw [if_neg (by omega)]
          exact this
      · rw [if_neg h]
        refine Ev.yes (by omega) ?_
        rw [if_neg (by omega)]
        exact Ev.now _)
  unfold Zbl.f
  have hw : wrap64 ((a : Int) - (x0.length : Int)) = (a : Int) - (x0.length : Int) := w64 (by omega) (by omega)
  rw [hw]
  unfold sz2
  by_cases h : x0.length ≤ a
  · refine Ev.no (by omega) ?_
    have := key 0 (a - x0.length) (by omega) (by omega)
    rw [show ((a - x0.length : Nat) : Int) = (a : Int) - (x0.length : Int) from by omega] at this
    simp only [List.drop_zero] at this
    by_cases h2 : (x0.map List.length).sum ≤ a - x0.length
    · rw [if_pos h2] at this
      rw [if_pos (by omega), show a - (x0.length + (x0.map List.length).sum) = a - x0.length - (x0.map List.length).sum from by omega]
      exact this
    · rw [if_neg h2] at this
      rw [if_neg (by omega)]
      exact this
  · refine Ev.yes (by omega) ?_
    rw [if_neg (by omega)]
    exact Ev.now _
theorem le_sum {l : List Nat} {a : Nat} (h : a ∈ l) : a ≤ l.sum := by
  induction l with
  | nil => cases h
  | cons b l ih =>
    rw [List.sum_cons]
    rcases List.mem_cons.1 h with rfl | h
    · omega
    · have := ih h; omega
theorem le_sz2 {x0 : List (List Int)} {x : List Int} (h : x ∈ x0) : x.length ≤ sz2 x0 := by
  unfold sz2
  have : x.length ∈ x0.map List.length := List.mem_map.2 ⟨x, h, rfl⟩
  have := le_sum this
  omega
theorem spIn (a lo hi : Int) : Zap.f a lo hi = some (inRB a lo hi) := by
  unfold Zap.f inRB
  by_cases h : lo ≤ a
  · rw [if_pos h, decide_eq_true h, Bool.true_and]
  · rw [if_neg h, decide_eq_false h, Bool.false_and]
theorem u64w {n : Int} (h0 : 0 ≤ n) (h1 : n < 18446744073709551616) : IntKind.u64.wrap n = n := by
  show n % 18446744073709551616 = n
  omega
theorem spOne {n : Int} (h0 : 0 ≤ n) (h1 : n < 18446744073709551616) : Zba.f n = some (shl .i64 1 n) := by
  unfold Zba.f
  rw [u64w h0 h1, if_pos h0]
theorem maskB_eq {F n : Int} (h0 : 0 ≤ n) (h1 : n ≤ 24) : maskB F n = inRB F 0 (wrap64 (shl .i64 1 n - 1)) := by
  unfold maskB Zc2.f
  rw [inRange_some]
  have : inRB n 0 24 = true := by unfold inRB; simp; omega
  rw [this]
  simp only [Option.bind_some, if_true]
  unfold Zb5.f
  rw [if_pos h0]
  simp only [Option.bind_some]
  rw [inRange_some]
  rfl
theorem spFull {n : Int} (h0 : 0 ≤ n) (h1 : n < 18446744073709551616) : Zbt.f n = some (wrap64 (shl .i64 1 n - 1)) := by
  unfold Zbt.f
  rw [spOne h0 h1]
  rfl
theorem l11Is_loop (L S F : Int) (N : List (List Int)) (hn : N.length ≤ 16) (hL : L ≤ 8) : Ev (fun k => Za5.l0 k (N.length : Int) 0 L S F N) (!(N.any (badRow L N.length))) := by
  have key := Ev.up (fun k (_ : Unit) i => Za5.l0 k (N.length : Int) i L S F N) N.length (fun i _ => !((N.drop i).any (badRow L N.length))) (fun _ _ => True)
    (fun _ _ => by
      refine Ev.round ?_
      simp only [Za5.l0]
      refine Ev.no (by omega) ?_
      rw [List.drop_length]
      exact Ev.now _)
    (fun i _ hi _ ih => by
      refine Ev.round ?_
      simp only [Za5.l0]
      have hg : Zae N (i : Int) = N[i] := Zc0 (d := []) hi
      refine Ev.yes (by omega) (Ev.yes (by omega) (Ev.yes (by omega) ?_))
      rw [hg, List.drop_eq_getElem_cons hi, List.any_cons]
      by_cases hl : (N[i].length : Int) = L
      · refine Ev.yes hl ?_
        have inner := Ev.up (fun k (_ : Unit) j => Za5.l1 k (N.length : Int) (i : Int) j L S F N) N[i].length
          (fun j _ => ((N[i].drop j).all fun t => decide (-1 ≤ t) && decide (t ≤ (N.length : Int) - 1)) && !((N.drop (i + 1)).any (badRow L N.length))) (fun _ _ => True)
          (fun _ _ => by
            refine Ev.round ?_
            simp only [Za5.l1]
            refine Ev.no (by omega) ?_
            rw [List.drop_length, w64s (by omega)]
            simpa using ih () trivial)
          (fun j _ hj _ ihj => by
            refine Ev.round ?_
            simp only [Za5.l1]
            rw [hg]
            refine Ev.yes (by omega) (Ev.yes (by omega) (Ev.yes (by omega) (Ev.yes (by omega) (Ev.yes (by omega) ?_))))
            rw [rd_lt hj, w64 (n := (N.length : Int) - 1) (by omega) (by omega), w64s (by omega)]
            refine Ev.here (spIn _ _ _) ?_
            rw [List.drop_eq_getElem_cons hj, List.all_cons]
            show Ev _ ((inRB N[i][j] (-1) ((N.length : Int) - 1) && _) && _)
            cases hb : inRB N[i][j] (-1) ((N.length : Int) - 1)
            · exact Ev.no (by simp) (Ev.now _)
            · refine Ev.yes rfl ?_
              simpa using ihj () trivial)
        have h0 := inner 0 () (by omega) trivial
        have hb : badRow L N.length N[i] = !(N[i].all fun t => decide (-1 ≤ t) && decide (t ≤ (N.length : Int) - 1)) := by unfold badRow; rw [decide_eq_true hl]; simp
        rw [hb, Bool.not_or, Bool.not_not]
        simpa using h0
      · refine Ev.no hl ?_
        have hb : badRow L N.length N[i] = true := by unfold badRow; rw [decide_eq_false hl]; simp
        rw [hb]
        exact Ev.now _)
  have := key 0 () (by omega) trivial
  simpa using this
theorem l11Is_ev (L S F : Int) (N : List (List Int)) (hN : N.length ≤ 9223372036854775807) : Ev (fun k => Za5.f k L S F N) (isAut L S F N) := by
  unfold Za5.f isAut
  refine Ev.here (show Za4.f L S F N = some (N.length : Int) from rfl) ?_
  refine Ev.here (spIn _ _ _) ?_
  have hno : ∀ x3, Ev (fun k => Za5.j0 k x3 true L S F N) false := fun x3 => Ev.round (by simp only [Za5.j0]; exact Ev.yes (by trivial) (Ev.now _))
  cases h1 : inRB L 0 8
  · exact Ev.no (by simp) (hno _)
  refine Ev.yes rfl (Ev.here (spIn _ _ _) ?_)
  cases h2 : inRB (N.length : Int) 1 16
  · exact Ev.no (by simp) (hno _)
  have a := h2
  unfold inRB at h1 a
  simp only [Bool.and_eq_true, decide_eq_true_eq] at h1 a
  refine Ev.yes rfl ?_
  rw [w64 (n := (N.length : Int) - 1) (by omega) (by omega)]
  refine Ev.here (spIn _ _ _) ?_
  cases h3 : inRB S 0 ((N.length : Int) - 1)
  · exact Ev.no (by simp) (hno _)
  refine Ev.yes rfl (Ev.here (spFull (by omega) (by omega)) (Ev.here (spIn _ _ _) ?_))
  rw [← maskB_eq (by omega) (by omega)]
  cases h4 : maskB F N.length
  · exact hno _
  · refine Ev.round ?_
    simp only [Za5.j0]
    refine Ev.no (by simp) ?_
    simpa using l11Is_loop L S F N (by omega) h1.2
theorem toA (a b c : Int) (l : List (List Int)) (h : sz2 l ≤ 1048576) : Ev (fun k => Zbz.f k a b c l) (a, b, c, l) := by
  unfold Zbz.f
  refine Ev.bind (toSS l (by unfold sz2 at h; omega) (fun x hx => by have := le_sz2 hx; omega)) (Ev.now _)
theorem eqA (a b c : Int) (l : List (List Int)) (h : sz2 l ≤ 1048576) : Ev (fun k => Zcn.f k a b c l a b c l) true := by
  unfold Zcn.f
  refine Ev.yes rfl (Ev.yes rfl (Ev.yes rfl ?_))
  refine Ev.bind (eqSS l l (by unfold sz2 at h; omega) (fun x hx => by have := le_sz2 hx; omega)) ?_
  rw [decide_eq_true rfl]
  exact Ev.yes rfl (Ev.now _)
/-- The rows of a machine: each of as many places as there are letters, each place a state or -1. -/
def Rows' (L : Int) (N : List (List Int)) : Prop := ∀ row ∈ N, (row.length : Int) = L ∧ ∀ t ∈ row, -1 ≤ t ∧ t < N.length
structure AutOK (L S F : Int) (N : List (List Int)) : Prop where
  l0 : 0 ≤ L
  l8 : L ≤ 8
  n1 : 1 ≤ N.length
  n16 : N.length ≤ 16
  s0 : 0 ≤ S
  sn : S < N.length
  mask : maskB F N.length = true
  rows : Rows' L N
theorem isAut_ok {L S F : Int} {N : List (List Int)} (h : isAut L S F N = true) : AutOK L S F N := by
  unfold isAut inRB at h
  simp only [Bool.and_eq_true, decide_eq_true_eq, Bool.not_eq_true', List.any_eq_false] at h
  obtain ⟨⟨a, b⟩, ⟨c, d⟩, ⟨e, f⟩, g, i⟩ := h
  refine ⟨a, b, by omega, by omega, e, by omega, g, fun row hr => ?_⟩
  have := i row hr
  unfold badRow at this
  simp only [Bool.or_eq_true, Bool.not_eq_true', decide_eq_false_iff_not, not_or, Decidable.not_not, Bool.not_eq_false, List.all_eq_true, Bool.and_eq_true, decide_eq_true_eq] at this
  exact ⟨this.1, fun t ht => ⟨(this.2 t ht).1, by have := (this.2 t ht).2; omega⟩⟩
/-- The state to which a letter leads, -1 for no state. -/
def nx (N : List (List Int)) (s a : Int) : Int := if s < 0 then -1 else rd (Zae N s) a
theorem nat_of {i : Int} {n : Nat} (h0 : 0 ≤ i) (h1 : i < n) : ∃ k : Nat, i = k ∧ k < n := ⟨i.toNat, by omega, by omega⟩
theorem row_at {L : Int} {N : List (List Int)} (hN : Rows' L N) {s : Int} (h0 : 0 ≤ s) (h1 : s < N.length) : ((Zae N s).length : Int) = L ∧ ∀ t ∈ Zae N s, -1 ≤ t ∧ t < N.length := by
  obtain ⟨k, rfl, hk⟩ := nat_of h0 h1
  have hg : Zae N (k : Int) = N[k] := Zc0 (d := []) hk
  rw [hg]
  exact hN _ (List.getElem_mem hk)
theorem rd_mem {l : List Int} {i : Int} (h0 : 0 ≤ i) (h1 : i < l.length) : rd l i ∈ l := by
  obtain ⟨k, rfl, hk⟩ := nat_of h0 h1
  rw [rd_lt hk]
  exact List.getElem_mem hk
theorem nx_in {L : Int} {N : List (List Int)} (hN : Rows' L N) {s a : Int} (h1 : s < N.length) (ha : 0 ≤ a) (hb : a < L) : -1 ≤ nx N s a ∧ nx N s a < N.length := by
  unfold nx
  by_cases h : s < 0
  · rw [if_pos h]; omega
  · rw [if_neg h]
    have hr := row_at hN (s := s) (by omega) h1
    exact hr.2 _ (rd_mem ha (by omega))
/-- The reference's reading, from a state. -/
def hasB (F s : Int) : Bool := (Go.bits .and .i64 (shr .i64 F s) 1) == 1
theorem has_eq {F s : Int} (h : 0 ≤ s) : Zcz.f F s = some (hasB F s) := by unfold Zcz.f; rw [if_pos h]; rfl
theorem bit_eq {F s : Int} (h : 0 ≤ s) (h1 : s < 18446744073709551616) : Zaq.f F s = some (hasB F s) := by
  unfold Zaq.f; rw [u64w h h1, if_pos h]; rfl
/-- The final states of an automaton, as a list. -/
def finL (F : Int) (n : Nat) : List Bool := (List.range n).map fun (s : Nat) => hasB F s
theorem machineOf_ev (L S F : Int) (N : List (List Int)) (hn : N.length ≤ 1048576) : Ev (fun k => Zbd.f k L S F N) (L, S, finL F N.length, N) := by
  have key := Ev.up (fun k (s : List Bool) i => Zbd.l0 k (N.length : Int) i L S F N L S s N) N.length (fun _ _ => (L, S, finL F N.length, N)) (fun i s => s = finL F i)
    (fun s hs => by
      refine Ev.round ?_
      simp only [Zbd.l0]
      refine Ev.no (by omega) ?_
      rw [hs]
      exact Ev.now _)
    (fun i s hi hs ih => by
      refine Ev.round ?_
      simp only [Zbd.l0]
      refine Ev.yes (by omega) (Ev.here (has_eq (by omega)) ?_)
      have hl : s.length = i := by rw [hs]; simp [finL]
      refine Ev.yes (by omega) ?_
      rw [w64s (by omega)]
      refine ih _ ?_
      rw [hs]
      simp [finL, List.range_succ])
  have := key 0 [] (by omega) (by simp [finL])
  unfold Zbd.f
  simpa using this
theorem finL_at {F : Int} {n : Nat} {s : Int} (h0 : 0 ≤ s) (h1 : s < n) : rdOf false (finL F n) s = hasB F s := by
  obtain ⟨k, rfl, hk⟩ := nat_of h0 h1
  rw [Zc0 (by simp [finL]; exact hk)]
  simp [finL]
end Go.Proofs.YtlmicipfikammaaDoor.U
end
