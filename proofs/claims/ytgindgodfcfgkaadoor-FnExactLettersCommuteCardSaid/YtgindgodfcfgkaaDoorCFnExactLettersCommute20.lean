import Derived.ChangeShapes
import Derived.Deep.Slices
import Derived.Lib.SmallJoins
import Derived.Test.YtgindgodfcfgkaaDoorCFnExactLettersCommute17
import Derived.Test.YtgindgodfcfgkaaDoorCFnExactLettersCommute19
section M0
namespace Go.Proofs.YtgindgodfcfgkaaDoor.P
open Go.RowKit Go.Proofs.YtgindgodfcfgkaaDoor.Sh Go.Proofs.YtgindgodfcfgkaaDoorW.PrintWords Go.Proofs.YtgindgodfcfgkaaDoorW.PrintLast Go.Proofs.YtgindgodfcfgkaaDoorW.PrintMore
open Kd
attribute [local go_sem] Zcd Zca Zcn Zcm Zb1 Zb2 Zcc Zce   -- for this text's walks alone
set_option linter.unusedVariables false
set_option linter.unusedSimpArgs false
def Zay.j0 : Nat → Bool → Int → List Int → Int → Int → Int → List (List Int) → Int → List Int → Int → Int → Int → List (List Int) → Option (Bool)
 | 0, _, _, _, _, _, _, _, _, _, _, _, _, _ => none
 | k + 1, s, c, d, e, g, h, i, j, l, m, n, o, p => if s = true then (some false) else ((Zcl.f k c d).bind fun b => ((Zdf.f k j l b.1 b.2).bind fun q => (if q = true then ((Zci.f k e g h i).bind fun a => ((Zc8.f k m n o p a.1 a.2.1 a.2.2.1 a.2.2.2).bind fun r => (if r = true then (some true) else (some false)))) else (some false))))
def Zay.f (k : Nat) (d : Int) (e : List Int) (g : Int) (h : Int) (i : Int) (j : List (List Int)) : Option (Bool) := (Zcv.f d e 1048576).bind fun o => (if o < 0 then (some true) else ((Zcx.f k g h i j o).bind fun p => (if p < 0 then (some true) else ((Zcl.f k d e).bind fun l => ((Zci.f k g h i j).bind fun c => ((Zat.f k l.1 l.2 c.1 c.2.1 c.2.2.1 c.2.2.2).bind fun m => ((Zcl.f k d e).bind fun b => ((Zci.f k g h i j).bind fun a => ((Zas.f k b.1 b.2 a.1 a.2.1 a.2.2.1 a.2.2.2).bind fun n => (if (n.1 != m.1) = true then (Zay.j0 k true d e g h i j b.1 b.2 a.1 a.2.1 a.2.2.1 a.2.2.2) else (Zay.j0 k (n.2 != m.2) d e g h i j b.1 b.2 a.1 a.2.1 a.2.2.1 a.2.2.2)))))))))))
def Zay.T8 : Bool × List (List Nat × List Nat) := (true, [([], []), ([0], [0]), ([], []), ([2, 1], [2]), ([1, 3, 3], [1, 3]), ([4], [4]), ([5], [5]), ([5], [5]), ([6, 4, 0, 1, 2, 3, 4, 5, 6], [6]), ([7, 8, 0, 1, 2, 3, 4, 5, 6, 7, 8], [7])])
def Zay.B8 : List Nat := [0, 1, 0, 7, 15, 31, 63, 63, 127, 511]
theorem Zay.tab8 : rtab .any (opsOf Tryd.f4 8) = Zay.T8 := by kernel_rfl
theorem Zay.bits8 : Zc0 Zay.T8.2 Zay.B8 = true := by kernel_rfl
set_option maxHeartbeats 8000000 in
set_option maxRecDepth 100000 in
theorem Zay.calls (k : Nat) (x : Int) (O : Option Addr) (P : Nat) (s : List Int) (D : Int) (E : Int) (G : Int) (ab : Option Addr) (ac : Nat) (y : List (List Int)) (r : Bool) (w : World) (a6 : Kd.C (Kd.int .i64) w O s.length s) (a7 : s.length ≤ P) (a8 : Kd.C (Kd.slice 2 (Kd.int .i64)) w ab y.length y) (a9 : y.length ≤ ac) (h : Zay.f k x s D E G y = some r) (hT_ : r = true) (hTab : Tab w) :
  Calls Tryd.prog 4 #[.agg #[.int .i64 x, .slice O s.length P], .agg #[.int .i64 D, .int .i64 E, .int .i64 G, .slice ab y.length ac]] w fun e w' => e = .returned (.bool r) ∧ Below w.heap.size w w' := by
 have HTab := mA hTab
 clear hTab
 have HTr_ := mA hT_
 clear hT_
 have dH := Tryd.underlying24
 have dI := Tryd.underlying27
 have dJ := Tryd.underlying32
 have dK := Tryd.underlying34
 have ax := mA a6
 have ay := mA a7
 clear a6 a7
 have aA := mA a8
 have aB := mA a9
 clear a8 a9
 have HB := mA (Below.refl w.heap.size w)
 unfold Zay.f at h
 have H := h
 clear h
 replace H := bE H
 obtain ⟨ap, co, H⟩ := H
 have A3 := mA co
 clear co
 by_cases c4 : ap < 0
 ·rw [if_pos c4] at H
  have cb := dT c4
  clear c4
  obtain rfl := oI H
  go_enter Tryd.func4, Tryd.ntmps4
  go_wp2_with (first | ((with_reducible refine Zap (N := 2) rfl ?_); refine boxS (N := 2) (cs := #[.int .i64 x, .slice O s.length P]) (t := 24) ?_; intro aa hg w5 hbox hb; have a := mA (hbox); have ba := geW (w := w) hg; have bb := geW (w := w) hg; replace HB := mA (Zac (bW) hb); clear hb hbox hg) | ((with_reducible refine Zap (N := 3) rfl ?_); refine boxS (N := 3) (cs := #[.int .i64 D, .int .i64 E, .int .i64 G, .slice ab y.length ac]) (t := 27) ?_; intro M hg w6 hbox hb; have b := mA (hbox); have bd := geW (w := w) hg; have bf := geW (w := w) hg; replace HB := mA (Zac (bW) hb); have ah := mA (neB hg a); have ai := mA (neC hg a); replace a := mA (blkB a.out hb); clear hb hbox hg; have dL := ah.out; have dM := ai.out; obtain ⟨cW, cX⟩ := Zc6 a.out; obtain ⟨cY, cZ⟩ := frz2 a.out) | ((with_reducible refine Zav (f := 5) rfl ?_); refine Zbo (some 14) Tryd.func5 #[.agg #[.int .i64 x, .slice O s.length P], .int .i64 1048576] ?_; (with_reducible refine (Zcv.calls x _ _ s 1048576 ap _ ?side1 ?side2 A3.out).mono ?_); (case side1 => exact cP (zF ax.out HB.out)); (case side2 => exact ay.out); rintro e w9 ⟨rfl, hb⟩; refine ⟨_, rfl, ?_⟩; replace a := mA (blkB a.out hb); replace b := mA (blkB b.out hb); replace HB := mA (Zac (bW) hb); (try clear hb); (try clear hb2); (try clear hk); (try clear hi)))
  go_ret
  exact ⟨eW, bW⟩
 rw [if_neg c4] at H
 have cb := dF c4
 clear c4
 replace H := bE H
 obtain ⟨aU, cc, H⟩ := H
 have cp := mA cc
 clear cc
 by_cases aL : aU < 0
 ·rw [if_pos aL] at H
  have bg := dT aL
  clear aL
  obtain rfl := oI H
  go_enter Tryd.func4, Tryd.ntmps4
  go_wp2_with (first | ((with_reducible refine Zap (N := 2) rfl ?_); refine boxS (N := 2) (cs := #[.int .i64 x, .slice O s.length P]) (t := 24) ?_; intro aa hg dV hbox hb; have a := mA (hbox); have ba := geW (w := w) hg; have bb := geW (w := w) hg; replace HB := mA (Zac (bW) hb); clear hb hbox hg) | ((with_reducible refine Zap (N := 3) rfl ?_); refine boxS (N := 3) (cs := #[.int .i64 D, .int .i64 E, .int .i64 G, .slice ab y.length ac]) (t := 27) ?_; intro M hg dW hbox hb; have b := mA (hbox); have bd := geW (w := w) hg; have bf := geW (w := w) hg; replace HB := mA (Zac (bW) hb); have ah := mA (neB hg a); have ai := mA (neC hg a); replace a := mA (blkB a.out hb); clear hb hbox hg; have dl := ah.out; have dm := ai.out; obtain ⟨cJ, cK⟩ := Zc6 a.out; obtain ⟨cL, cM⟩ := frz2 a.out) | ((with_reducible refine Zav (f := 5) rfl ?_); refine Zbo (some 14) Tryd.func5 #[.agg #[.int .i64 x, .slice O s.length P], .int .i64 1048576] ?_; (with_reducible refine (Zcv.calls x _ _ s 1048576 ap _ ?side1 ?side2 A3.out).mono ?_); (case side1 => exact cP (zF ax.out HB.out)); (case side2 => exact ay.out); rintro e dX ⟨rfl, hb⟩; refine ⟨_, rfl, ?_⟩; replace a := mA (blkB a.out hb); replace b := mA (blkB b.out hb); replace HB := mA (Zac (bW) hb); (try clear hb); (try clear hb2); (try clear hk); (try clear hi); obtain ⟨cN, cO, cQ, cR⟩ := Zbi b.out; obtain ⟨cS, cT, cU, cV⟩ := frz4 b.out) | ((with_reducible refine Zav (f := 6) rfl ?_); refine Zbo (some 19) Tryd.func6 #[.agg #[.int .i64 D, .int .i64 E, .int .i64 G, .slice ab y.length ac], .int .i64 ap] ?_; (with_reducible refine (Zcx.calls k D E G _ _ y ap aU _ ?side1 ?side2 cp.out).mono ?_); (case side1 => exact cP (zF aA.out HB.out)); (case side2 => exact aB.out); rintro e dY ⟨rfl, hb⟩; refine ⟨_, rfl, ?_⟩; replace a := mA (blkB a.out hb); replace b := mA (blkB b.out hb); replace HB := mA (Zac (bW) hb); (try clear hb); (try clear hb2); (try clear hk); (try clear hi)))
  go_ret
  exact ⟨eW, bW⟩
 rw [if_neg aL] at H
 have bg := dF aL
 clear aL
 replace H := bE H
 obtain ⟨⟨aV, am⟩, A190, H⟩ := H
 try dsimp only at H
 have c0 := mA A190
 clear A190
 replace H := bE H
 obtain ⟨⟨aW, aX, aY, az⟩, A200, H⟩ := H
 try dsimp only at H
 have c1 := mA A200
 clear A200
 replace H := bE H
 obtain ⟨⟨an, cd⟩, A210, H⟩ := H
 try dsimp only at H
 have da := mA A210
 clear A210
 replace H := bE H
 obtain ⟨⟨T, u⟩, A220, H⟩ := H
 try dsimp only at H
 have db := mA A220
 clear A220
 replace H := bE H
 obtain ⟨⟨U, Y, ad, I⟩, A230, H⟩ := H
 try dsimp only at H
 have dc := mA A230
 clear A230
 replace H := bE H
 obtain ⟨⟨ao, ce⟩, A240, H⟩ := H
 try dsimp only at H
 have dd := mA A240
 clear A240
 have aZ := mA H
 clear H
 go_enter Tryd.func4, Tryd.ntmps4
 try go_wp2_with (first | ((with_reducible refine Zap (N := 2) rfl ?_); refine boxS (N := 2) (cs := #[.int .i64 x, .slice O s.length P]) (t := 24) ?_; intro aa hg dZ hbox hb; have a := mA (hbox); have ba := geW (w := w) hg; have bb := geW (w := w) hg; replace HB := mA (Zac (bW) hb); clear hb hbox hg) | ((with_reducible refine Zap (N := 3) rfl ?_); refine boxS (N := 3) (cs := #[.int .i64 D, .int .i64 E, .int .i64 G, .slice ab y.length ac]) (t := 27) ?_; intro M hg d0 hbox hb; have b := mA (hbox); have bd := geW (w := w) hg; have bf := geW (w := w) hg; replace HB := mA (Zac (bW) hb); have ah := mA (neB hg a); have ai := mA (neC hg a); replace a := mA (blkB a.out hb); clear hb hbox hg; have dn := ah.out; have dp := ai.out; obtain ⟨bk, bl⟩ := Zc6 a.out; obtain ⟨bm, bn⟩ := frz2 a.out) | ((with_reducible refine Zav (f := 5) rfl ?_); refine Zbo (some 14) Tryd.func5 #[.agg #[.int .i64 x, .slice O s.length P], .int .i64 1048576] ?_; (with_reducible refine (Zcv.calls x _ _ s 1048576 ap _ ?side1 ?side2 A3.out).mono ?_); (case side1 => exact cP (zF ax.out HB.out)); (case side2 => exact ay.out); rintro e d1 ⟨rfl, hb⟩; refine ⟨_, rfl, ?_⟩; replace a := mA (blkB a.out hb); replace b := mA (blkB b.out hb); replace HB := mA (Zac (bW) hb); (try clear hb); (try clear hb2); (try clear hk); (try clear hi); obtain ⟨bo, bp, bq, br⟩ := Zbi b.out; obtain ⟨bs, bu, bv, bw⟩ := frz4 b.out) | ((with_reducible refine Zav (f := 6) rfl ?_); refine Zbo (some 19) Tryd.func6 #[.agg #[.int .i64 D, .int .i64 E, .int .i64 G, .slice ab y.length ac], .int .i64 ap] ?_; (with_reducible refine (Zcx.calls k D E G _ _ y ap aU _ ?side1 ?side2 cp.out).mono ?_); (case side1 => exact cP (zF aA.out HB.out)); (case side2 => exact aB.out); rintro e de ⟨rfl, hb⟩; refine ⟨_, rfl, ?_⟩; replace a := mA (blkB a.out hb); replace b := mA (blkB b.out hb); replace HB := mA (Zac (bW) hb); (try clear hb); (try clear hb2); (try clear hk); (try clear hi)))
 replace a := mA (Zad a.out)
 replace b := mA (Zad b.out)
 replace HB := mA (Za0 HB.out)
 refine Zcq (n := 10) (S := fun w' => w'.cell? ⟨aa, 0, none⟩ = some (.int .i64 x) ∧ w'.cell? ⟨aa, 1, none⟩ = some (.slice O s.length P) ∧ w'.cell? ⟨M, 0, none⟩ = some (.int .i64 D) ∧ w'.cell? ⟨M, 1, none⟩ = some (.int .i64 E) ∧ w'.cell? ⟨M, 2, none⟩ = some (.int .i64 G) ∧ w'.cell? ⟨M, 3, none⟩ = some (.slice ab y.length ac)) (ds := []) #[false, false, false, false, false, false, false, false, false, false] (by kernel_rfl) rfl rfl ⟨bc a 0, bc a 1, bc b 0, bc b 1, bc b 2, bc b 3⟩ (fun hHeld => ?_); refine Zb7 Zay.tab8 Zay.bits8 (fun HT_ HW_ => ?_)
 generalize de.drew = w33 at a b HB hHeld ⊢
 refine Za8 (i := 0) (N := some 23) (Zaz HT_.out HW_.out (by kernel_rfl)) hHeld ?_
 refine Za8 (i := 2) (N := some 25) (Zaz HT_.out HW_.out (by kernel_rfl)) hHeld ?_
 refine one_ (i := 1) (N := some 24) #[true, true, true, false, false, false, false, false, false, false] rfl rfl (Za9 HT_.out (by kernel_rfl)) (by decide) (fun K hK => ?_)
 refine Zb6 Tryd.func8 (by kernel_rfl) rfl #[.agg #[.int .i64 x, .slice O s.length P]] (by rfl) rfl rfl (by (try simp only [List.map_toArray, List.map_cons, List.map_nil]); first | done | rfl | (simp only [List.length_drop, List.length_take]; rfl)) ?_
 with_reducible refine (Zcl.calls k x _ _ s aV am _ ?side1 ?side2 c0.out).mono ?_
 (case side1 => exact cP (zF ax.out HB.out))
 (case side2 => exact ay.out)
 rintro e d2 ⟨dN, rfl, W, hb⟩
 refine ⟨_, rfl, ?_⟩
 have q := mA (zP W (Zag (bW)))
 replace a := mA (blkB a.out hb)
 replace b := mA (blkB b.out hb)
 replace HB := mA (Zac (bW) hb)
 (try clear hb)
 (try clear hb2)
 (try clear hk)
 (try clear hi)
 (try clear W)
 refine hK.out _ _ ⟨bc a 0, bc a 1, bc b 0, bc b 1, bc b 2, bc b 3⟩ (fun hHeld => ?_)
 clear hK K
 refine putS 24 ?_
 refine one_ (i := 3) (N := some 26) #[true, true, true, true, false, false, false, false, false, false] rfl rfl (Za9 HT_.out (by kernel_rfl)) (by decide) (fun K hK => ?_)
 refine Zb6 Tryd.func9 (by kernel_rfl) rfl #[.agg #[.int .i64 D, .int .i64 E, .int .i64 G, .slice ab y.length ac]] (by rfl) rfl rfl (by (try simp only [List.map_toArray, List.map_cons, List.map_nil]); first | done | rfl | (simp only [List.length_drop, List.length_take]; rfl)) ?_
 with_reducible refine (Zci.calls k D E G _ _ y aW aX aY az _ ?side1 ?side2 c1.out).mono ?_
 (case side1 => exact cP (zF aA.out HB.out))
 (case side2 => exact aB.out)
 rintro e d3 ⟨dO, rfl, W, hb⟩
 refine ⟨_, rfl, ?_⟩
 have z := mA (xQ (xU W (zG (rP q.out))) (Zag (bW)))
 replace q := mA (zK (rP q.out) hb)
 replace a := mA (blkB a.out hb)
 replace b := mA (blkB b.out hb)
 replace HB := mA (Zac (bW) hb)
 (try clear hb)
 (try clear hb2)
 (try clear hk)
 (try clear hi)
 (try clear W)
 obtain ⟨aG, aH, cf⟩ := zJ q.out
 (first | subst cf | (injection cf with aq aI ar; have aJ := aq.symm; have aK := ar.symm; clear aq aI ar; subst aJ; subst aK))
 obtain ⟨aM, aN, cg⟩ := xK z.out
 (first | subst cg | (injection cg with aq aI ar; have aJ := aq.symm; have aK := ar.symm; clear aq aI ar; subst aJ; subst aK))
 refine hK.out _ _ ⟨bc a 0, bc a 1, bc b 0, bc b 1, bc b 2, bc b 3⟩ (fun hHeld => ?_)
 clear hK K
 refine putS 26 ?_
 refine one_ (i := 4) (N := some 27) #[true, true, true, true, true, false, false, false, false, false] rfl rfl (Za9 HT_.out (by kernel_rfl)) (by decide) (fun K hK => ?_)
 refine Zb6 Tryd.func13 (by kernel_rfl) rfl #[.agg #[.int .i64 aV, .slice aG am.length aH], .agg #[.int .i64 aW, .int .i64 aX, .int .i64 aY, .slice aM az.length aN]] (by rfl) rfl rfl (by (try simp only [List.map_toArray, List.map_cons, List.map_nil]); first | done | rfl | (simp only [List.length_drop, List.length_take]; rfl)) ?_
 with_reducible refine (Zat.calls k aV _ _ am aW aX aY _ _ az an cd _ ?side1 ?side2 ?side3 ?side4 da.out).mono ?_
 (case side1 => exact cP ((zE q.out).2.2))
 (case side2 => exact (zE q.out).2.1)
 (case side3 => exact cP ((yL z.out).2.2))
 (case side4 => exact (yL z.out).2.1)
 rintro e cq ⟨rfl, hb⟩
 refine ⟨_, rfl, ?_⟩
 replace q := mA (zK (rP q.out) hb)
 replace z := mA (yQ (sP z.out) hb)
 replace a := mA (blkB a.out hb)
 replace b := mA (blkB b.out hb)
 replace HB := mA (Zac (bW) hb)
 (try clear hb)
 (try clear hb2)
 (try clear hk)
 (try clear hi)
 refine hK.out _ _ ⟨bc a 0, bc a 1, bc b 0, bc b 1, bc b 2, bc b 3⟩ (fun hHeld => ?_)
 clear hK K
 refine putS 27 ?_
 refine Zan (i := 5) (N := some 22) (Zai HT_.out (by kernel_rfl)) ?_
 refine Zan (i := 6) (N := some 28) (Zai HT_.out (by kernel_rfl)) ?_
 refine Zan (i := 7) (N := some 29) (Zai HT_.out (by kernel_rfl)) ?_
 refine Zan (i := 8) (N := some 6) (Zai HT_.out (by kernel_rfl)) ?_
 refine Zan (i := 9) (N := some 7) (Zai HT_.out (by kernel_rfl)) ?_
 refine Zcz (Zct HT_.out (by kernel_rfl)) ?_
 have bx : cq.cell? ⟨aa, 0, none⟩ = some (.int .i64 x) := bc a 0
 have bz : cq.cell? ⟨aa, 1, none⟩ = some (.slice O s.length P) := bc a 1
 have bA := Zab a.out 0
 have bB := Zab a.out 1
 go_upto_region 12 with (first | ((with_reducible refine Zav (f := 8) rfl ?_); refine Zbo (some 31) Tryd.func8 #[.agg #[.int .i64 x, .slice O s.length P]] ?_; (with_reducible refine (Zcl.calls k x _ _ s T u _ ?side1 ?side2 db.out).mono ?_); (case side1 => exact cP (zF ax.out HB.out)); (case side2 => exact ay.out); rintro e d4 ⟨dP, rfl, W, hb⟩; refine ⟨_, rfl, ?_⟩; replace z := mA (xB (sP z.out) (zH W) hb); have B := mA (zP (zS W (zG (rP q.out))) (Zag (bW))); replace q := mA (zR (rP q.out) (zH W) hb); replace a := mA (blkB a.out hb); replace b := mA (blkB b.out hb); replace HB := mA (Zac (bW) hb); (try clear hb); (try clear hb2); (try clear hk); (try clear hi); (try clear W)) | ((with_reducible refine Zap (N := 8) rfl ?_); refine boxS (N := 8) (cs := #[.int .i64 0, .slice none 0 0]) (t := 32) ?_; intro A hg d5 hbox hb; replace q := mA (zK (rP q.out) hb); replace z := mA (yQ (sP z.out) hb); replace B := mA (zK (rP B.out) hb); have c := mA (hbox); have dq := geW (w := w) hg; have dr := geW (w := w) hg; replace HB := mA (Zac (bW) hb); have au := mA (neB hg a); have aP := mA (neC hg a); replace a := mA (blkB a.out hb); have av := mA (neB hg b); have aQ := mA (neC hg b); replace b := mA (blkB b.out hb); clear hb hbox hg; have dt := aP.out; have du := au.out; have dv := aQ.out; have dw := av.out; obtain ⟨bC, bD⟩ := Zc6 c.out; obtain ⟨bF, bG⟩ := frz2 c.out; obtain ⟨J, L, cB⟩ := zJ B.out; subst cB; obtain ⟨bH, bI, bJ, bK⟩ := Zbi b.out; obtain ⟨bL, bM, bN, bO⟩ := frz4 b.out) | ((with_reducible refine Zav (f := 9) rfl ?_); refine Zbo (some 33) Tryd.func9 #[.agg #[.int .i64 D, .int .i64 E, .int .i64 G, .slice ab y.length ac]] ?_; (with_reducible refine (Zci.calls k D E G _ _ y U Y ad I _ ?side1 ?side2 dc.out).mono ?_); (case side1 => exact zF aA.out (bW)); (case side2 => exact aB.out); rintro e d6 ⟨dQ, rfl, W, hb⟩; refine ⟨_, rfl, ?_⟩; have ae := mA (xQ (xU (xU (xU W (zG (by (with_reducible repeat (first | apply zC | apply zD | apply zA)); exact (zB (zQ (p := ⟨A, 1, none⟩) (zQ (p := ⟨A, 0, none⟩) (yA q.out c.out (by decide)) (fun _ hk => hk.2) (.int .i64 T)) (fun _ hk => hk.2) (.slice J u.length L)) (fun _ h_ => h_.1))))) (Kd.S_lt (by (with_reducible repeat (first | apply yD | apply yE | apply zW)); exact (yC (zZ (p := ⟨A, 1, none⟩) (zZ (p := ⟨A, 0, none⟩) (yZ z.out c.out (by decide)) (fun _ hk => hk.2) (.int .i64 T)) (fun _ hk => hk.2) (.slice J u.length L)) (fun _ h_ => h_.1))))) (zG (by (with_reducible repeat (first | apply zC | apply zD | apply zA)); exact (zB (zQ (p := ⟨A, 1, none⟩) (zQ (p := ⟨A, 0, none⟩) (yA B.out c.out (by decide)) (fun _ hk => hk.2) (.int .i64 T)) (fun _ hk => hk.2) (.slice J u.length L)) (fun _ h_ => h_.1))))) (Zag (bW))); replace q := mA (zK (by (with_reducible repeat (first | apply zC | apply zD | apply zA)); exact (zB (zQ (p := ⟨A, 1, none⟩) (zQ (p := ⟨A, 0, none⟩) (yA q.out c.out (by decide)) (fun _ hk => hk.2) (.int .i64 T)) (fun _ hk => hk.2) (.slice J u.length L)) (fun _ h_ => h_.1))) hb); replace z := mA (xB (by (with_reducible repeat (first | apply yD | apply yE | apply zW)); exact (yC (zZ (p := ⟨A, 1, none⟩) (zZ (p := ⟨A, 0, none⟩) (yZ z.out c.out (by decide)) (fun _ hk => hk.2) (.int .i64 T)) (fun _ hk => hk.2) (.slice J u.length L)) (fun _ h_ => h_.1))) (Kd.S_base W) hb); replace B := mA (zK (by (with_reducible repeat (first | apply zC | apply zD | apply zA)); exact (zB (zQ (p := ⟨A, 1, none⟩) (zQ (p := ⟨A, 0, none⟩) (yA B.out c.out (by decide)) (fun _ hk => hk.2) (.int .i64 T)) (fun _ hk => hk.2) (.slice J u.length L)) (fun _ h_ => h_.1))) hb); replace a := mA (Zc3 (g := aa) (o := .cells #[.int .i64 x, .slice O s.length P] 24 (0, 0)) (by (with_reducible repeat (first | refine Zaj ?_ _ | refine Zad ?_ | refine Zaf ?_ _)); refine Za4 ?_ au.out _; (with_reducible repeat (first | refine Zaj ?_ _ | refine Zad ?_ | refine Zaf ?_ _)); refine Za4 ?_ au.out _; exact bP a.out) hb); replace b := mA (Zc3 (g := M) (o := .cells #[.int .i64 D, .int .i64 E, .int .i64 G, .slice ab y.length ac] 27 (0, 0)) (by (with_reducible repeat (first | refine Zaj ?_ _ | refine Zad ?_ | refine Zaf ?_ _)); refine Za4 ?_ av.out _; (with_reducible repeat (first | refine Zaj ?_ _ | refine Zad ?_ | refine Zaf ?_ _)); refine Za4 ?_ av.out _; exact bP b.out) hb); replace c := mA (Zc3 (g := A) (o := .cells #[.int .i64 T, .slice J u.length L] 32 (0, 0)) (by (with_reducible repeat (first | refine Zaj ?_ _ | refine Zad ?_ | refine Zaf ?_ _)); refine Za3 (cs := #[.int .i64 T, .slice none 0 0]) ?_ 1 _ rfl; (with_reducible repeat (first | refine Zaj ?_ _ | refine Zad ?_ | refine Zaf ?_ _)); refine Za3 (cs := #[.int .i64 0, .slice none 0 0]) ?_ 0 _ rfl; exact bP c.out) hb); replace HB := mA (Zac (bW) hb); (try clear hb); (try clear hb2); (try clear hk); (try clear hi); (try clear W)) | ((with_reducible refine Zap (N := 9) rfl ?_); refine boxS (N := 9) (cs := #[.int .i64 0, .int .i64 0, .int .i64 0, .slice none 0 0]) (t := 34) ?_; intro m hg df hbox hb; replace q := mA (zK (rP q.out) hb); replace z := mA (yQ (sP z.out) hb); replace B := mA (zK (rP B.out) hb); replace ae := mA (yQ (sP ae.out) hb); have d := mA (hbox); have dx := geW (w := w) hg; have dy := geW (w := w) hg; replace HB := mA (Zac (bW) hb); have aj := mA (neB hg a); have aR := mA (neC hg a); replace a := mA (blkB a.out hb); have ak := mA (neB hg b); have aS := mA (neC hg b); replace b := mA (blkB b.out hb); have al := mA (neB hg c); have aT := mA (neC hg c); replace c := mA (blkB c.out hb); clear hb hbox hg; have dz := aR.out; have dA := aj.out; have dB := aS.out; have dC := ak.out; have dD := aT.out; have dE := al.out; obtain ⟨bQ, bR, bS, bT⟩ := Zbi d.out; obtain ⟨bU, bV, bX, bY⟩ := frz4 d.out; obtain ⟨af, ag, cC⟩ := xK ae.out; subst cC) | ((with_reducible refine Zbp (t := 34) (p := 9) rfl ?_); refine Zdq (t := 34) (p := 9) (v := ?vo_w54) (w1 := ((((df.setCell ⟨m, 0, none⟩ (.int .i64 U)).setCell ⟨m, 1, none⟩ (.int .i64 Y)).setCell ⟨m, 2, none⟩ (.int .i64 ad)).setCell ⟨m, 3, none⟩ (.slice af I.length ag))) ?hg ?ho ?hn ?hr ?_; (case ho => rfl); (case hg => rfl); (case hn => rfl); (case hr => first | (go_simp; done) | (go_simp; rfl)); intro aC hw; have cr : Zaa (Kd.R (Kd.int .i64) 2 aC w.heap.size (fun k_ => some k_ ≠ (.slice J u.length L : Value).ownBlock) (.slice aG am.length aH) am) := ⟨(by rw [hw]; exact (by (with_reducible repeat (first | apply zC | apply zD | apply zA)); exact zB (zQ (p := ⟨m, 3, none⟩) (zQ (p := ⟨m, 2, none⟩) (zQ (p := ⟨m, 1, none⟩) (zQ (p := ⟨m, 0, none⟩) (yA q.out d.out (by decide)) (fun _ hk => hk.2) (.int .i64 U)) (fun _ hk => hk.2) (.int .i64 Y)) (fun _ hk => hk.2) (.int .i64 ad)) (fun _ hk => hk.2) (.slice af I.length ag)) (fun _ hk => hk.1.2)))⟩; have ct : Zaa (Kd.S (Kd.slice 2 (Kd.int .i64)) 22 aC w.heap.size (fun k_ => some k_ ≠ (.slice aG am.length aH : Value).ownBlock ∧ some k_ ≠ (.slice J u.length L : Value).ownBlock ∧ some k_ ≠ (.slice af I.length ag : Value).ownBlock) (.slice aM az.length aN) az) := ⟨(by rw [hw]; exact (by (with_reducible repeat (first | apply yD | apply yE | apply zW)); exact yC (zZ (p := ⟨m, 3, none⟩) (zZ (p := ⟨m, 2, none⟩) (zZ (p := ⟨m, 1, none⟩) (zZ (p := ⟨m, 0, none⟩) (yZ z.out d.out (by decide)) (fun _ hk => hk.2) (.int .i64 U)) (fun _ hk => hk.2) (.int .i64 Y)) (fun _ hk => hk.2) (.int .i64 ad)) (fun _ hk => hk.2) (.slice af I.length ag)) (fun _ hk => ⟨hk.1.1.1.2, ⟨hk.1.1.2, hk.1.2⟩⟩)))⟩; have cu : Zaa (Kd.R (Kd.int .i64) 2 aC w.heap.size (fun k_ => some k_ ≠ (.slice aG am.length aH : Value).ownBlock) (.slice J u.length L) u) := ⟨(by rw [hw]; exact (by (with_reducible repeat (first | apply zC | apply zD | apply zA)); exact zB (zQ (p := ⟨m, 3, none⟩) (zQ (p := ⟨m, 2, none⟩) (zQ (p := ⟨m, 1, none⟩) (zQ (p := ⟨m, 0, none⟩) (yA B.out d.out (by decide)) (fun _ hk => hk.2) (.int .i64 U)) (fun _ hk => hk.2) (.int .i64 Y)) (fun _ hk => hk.2) (.int .i64 ad)) (fun _ hk => hk.2) (.slice af I.length ag)) (fun _ hk => hk.1.2)))⟩; have cv : Zaa (Kd.S (Kd.slice 2 (Kd.int .i64)) 22 aC w.heap.size (fun k_ => some k_ ≠ (.slice aG am.length aH : Value).ownBlock ∧ some k_ ≠ (.slice aM az.length aN : Value).ownBlock ∧ some k_ ≠ (.slice J u.length L : Value).ownBlock) (.slice af I.length ag) I) := ⟨(by rw [hw]; exact (by (with_reducible repeat (first | apply yD | apply yE | apply zW)); exact yC (zZ (p := ⟨m, 3, none⟩) (zZ (p := ⟨m, 2, none⟩) (zZ (p := ⟨m, 1, none⟩) (zZ (p := ⟨m, 0, none⟩) (yZ ae.out d.out (by decide)) (fun _ hk => hk.2) (.int .i64 U)) (fun _ hk => hk.2) (.int .i64 Y)) (fun _ hk => hk.2) (.int .i64 ad)) (fun _ hk => hk.2) (.slice af I.length ag)) (fun _ hk => ⟨hk.1.1.1.2, ⟨hk.1.1.2, hk.1.2⟩⟩)))⟩; have cw : Zaa (aC.heap[aa]? = some (.cells #[.int .i64 x, .slice O s.length P] 24 (0, 0))) := ⟨(by rw [hw]; exact (by (with_reducible repeat (first | refine Zaj ?_ _ | refine Zad ?_ | refine Zaf ?_ _)); refine Za4 ?_ aj.out _; (with_reducible repeat (first | refine Zaj ?_ _ | refine Zad ?_ | refine Zaf ?_ _)); refine Za4 ?_ aj.out _; (with_reducible repeat (first | refine Zaj ?_ _ | refine Zad ?_ | refine Zaf ?_ _)); refine Za4 ?_ aj.out _; (with_reducible repeat (first | refine Zaj ?_ _ | refine Zad ?_ | refine Zaf ?_ _)); refine Za4 ?_ aj.out _; exact bP a.out))⟩; have cx : Zaa (aC.heap[M]? = some (.cells #[.int .i64 D, .int .i64 E, .int .i64 G, .slice ab y.length ac] 27 (0, 0))) := ⟨(by rw [hw]; exact (by (with_reducible repeat (first | refine Zaj ?_ _ | refine Zad ?_ | refine Zaf ?_ _)); refine Za4 ?_ ak.out _; (with_reducible repeat (first | refine Zaj ?_ _ | refine Zad ?_ | refine Zaf ?_ _)); refine Za4 ?_ ak.out _; (with_reducible repeat (first | refine Zaj ?_ _ | refine Zad ?_ | refine Zaf ?_ _)); refine Za4 ?_ ak.out _; (with_reducible repeat (first | refine Zaj ?_ _ | refine Zad ?_ | refine Zaf ?_ _)); refine Za4 ?_ ak.out _; exact bP b.out))⟩; have cy : Zaa (aC.heap[A]? = some (.cells #[.int .i64 T, .slice J u.length L] 32 (0, 0))) := ⟨(by rw [hw]; exact (by (with_reducible repeat (first | refine Zaj ?_ _ | refine Zad ?_ | refine Zaf ?_ _)); refine Za4 ?_ al.out _; (with_reducible repeat (first | refine Zaj ?_ _ | refine Zad ?_ | refine Zaf ?_ _)); refine Za4 ?_ al.out _; (with_reducible repeat (first | refine Zaj ?_ _ | refine Zad ?_ | refine Zaf ?_ _)); refine Za4 ?_ al.out _; (with_reducible repeat (first | refine Zaj ?_ _ | refine Zad ?_ | refine Zaf ?_ _)); refine Za4 ?_ al.out _; exact bP c.out))⟩; have cz : Zaa (aC.heap[m]? = some (.cells #[.int .i64 U, .int .i64 Y, .int .i64 ad, .slice af I.length ag] 34 (0, 0))) := ⟨(by rw [hw]; exact (by (with_reducible repeat (first | refine Zaj ?_ _ | refine Zad ?_ | refine Zaf ?_ _)); refine Za3 (cs := #[.int .i64 U, .int .i64 Y, .int .i64 ad, .slice none 0 0]) ?_ 3 _ rfl; (with_reducible repeat (first | refine Zaj ?_ _ | refine Zad ?_ | refine Zaf ?_ _)); refine Za3 (cs := #[.int .i64 U, .int .i64 Y, .int .i64 0, .slice none 0 0]) ?_ 2 _ rfl; (with_reducible repeat (first | refine Zaj ?_ _ | refine Zad ?_ | refine Zaf ?_ _)); refine Za3 (cs := #[.int .i64 U, .int .i64 0, .int .i64 0, .slice none 0 0]) ?_ 1 _ rfl; (with_reducible repeat (first | refine Zaj ?_ _ | refine Zad ?_ | refine Zaf ?_ _)); refine Za3 (cs := #[.int .i64 0, .int .i64 0, .int .i64 0, .slice none 0 0]) ?_ 0 _ rfl; exact bP d.out))⟩; have cA : Zaa (Below w.heap.size w aC) := ⟨(by rw [hw]; exact (bW))⟩; clear hw q z B ae a b c d HB; have q := cr; have z := ct; have B := cu; have ae := cv; have a := cw; have b := cx; have c := cy; have d := cz; have HB := cA; clear cr ct cu cv cw cx cy cz cA; obtain ⟨bZ, b0⟩ := Zc6 c.out; obtain ⟨b1, b2⟩ := frz2 c.out; obtain ⟨b3, b4, b5, b6⟩ := Zbi d.out; obtain ⟨b7, b8, b9, ca⟩ := frz4 d.out) | ((with_reducible refine Zav (f := 14) rfl ?_); refine Zbo (some 37) Tryd.func14 #[.agg #[.int .i64 T, .slice J u.length L], .agg #[.int .i64 U, .int .i64 Y, .int .i64 ad, .slice af I.length ag]] ?_; (with_reducible refine (Zas.calls k T _ _ u U Y ad (fun k_ => (((((some k_ ≠ (.slice aG am.length aH : Value).ownBlock ∧ (some k_ ≠ (.slice aM az.length aN : Value).ownBlock ∧ some k_ ≠ (.slice J u.length L : Value).ownBlock)) ∧ k_ ≠ aa) ∧ k_ ≠ M) ∧ k_ ≠ A) ∧ k_ ≠ m)) _ _ I ao ce _ ?side1 ?side2 ?side3 dd.out (tabW HTab.out)).mono ?_); (case side1 => exact cP ((zE B.out).2.2)); (case side2 => exact (zE B.out).2.1); (case side3 => exact Kd.S_V (yZ (yZ (yZ (yZ (ae.out) a.out (by decide)) b.out (by decide)) c.out (by decide)) d.out (by decide))); rintro e d7 ⟨rfl, hb⟩; refine ⟨_, rfl, ?_⟩; replace q := mA (zK (rP q.out) hb); replace z := mA (yQ (sP z.out) hb); replace B := mA (zK (rP B.out) hb); replace ae := mA (yQ (sP ae.out) hb); replace a := mA (blkB a.out hb); replace b := mA (blkB b.out hb); replace c := mA (blkB c.out hb); replace d := mA (blkB d.out hb); replace HB := mA (Zac (bW) hb); (try clear hb); (try clear hb2); (try clear hk); (try clear hi)))
 (try simp only [Act.put, List.setIfInBounds_toArray, List.set_cons_zero, List.set_cons_succ])
 go_cut [47] (fun v47 wc => ∃ (kq : Nat) (aD : Bool), v47 = .bool aD ∧ Zaa (Zay.j0 kq aD x s D E G y T u U Y ad I = some r) ∧ Zaa (kq ≤ k) ∧ Zaa (Kd.R (Kd.int .i64) 2 wc w.heap.size (fun _ => True) (.slice J u.length L) u) ∧ Zaa (Kd.S (Kd.slice 2 (Kd.int .i64)) 22 wc w.heap.size (fun k_ => some k_ ≠ ((.slice J u.length L) : Value).ownBlock) (.slice af I.length ag) I) ∧ Zaa (wc.heap[aa]? = some (.cells #[.int .i64 x, (.slice O s.length P)] 24 (0, 0))) ∧ Zaa (wc.heap[M]? = some (.cells #[.int .i64 D, .int .i64 E, .int .i64 G, (.slice ab y.length ac)] 27 (0, 0))) ∧ Zaa (wc.heap[A]? = some (.cells #[.int .i64 T, (.slice J u.length L)] 32 (0, 0))) ∧ Zaa (wc.heap[m]? = some (.cells #[.int .i64 U, .int .i64 Y, .int .i64 ad, (.slice af I.length ag)] 34 (0, 0))) ∧ Zaa (Below w.heap.size w wc))
 case first =>
  have H := aZ.out
  clear aZ
  by_cases aw : (ao != an) = true; rotate_left
  ·rw [if_neg aw] at H
   have aE : (ao != an) = false := by simpa using aw
   (try (have cm : decide (ao = an) = true := by simpa using aw))
   (try (have cn : (ao == an) = true := by simpa using aw))
   clear aw
   (first | rw [aE] | (simp only [i64_w, i32_w]; rw [aE]) | skip)
   have H' := mA H
   clear H
   go_wp2
   go_meet
   case rel => exact ⟨_, ((ce != cd)), (eW), H', ⟨by first | omega | exact Nat.le_refl _⟩, ⟨by (with_reducible repeat (first | apply zC | apply zD | apply zA)); exact zB B.out (fun _ hk => trivial)⟩, ⟨by (with_reducible repeat (first | apply yD | apply yE | apply zW)); exact yC ae.out (fun _ hk => hk.2.2)⟩, ⟨bP a.out⟩, ⟨bP b.out⟩, ⟨bP c.out⟩, ⟨bP d.out⟩, ⟨bW⟩⟩
  rw [if_pos aw] at H
  have aE : (ao != an) = true := aw
  (try (have cm : decide (ao = an) = false := by simpa using aw))
  (try (have cn : (ao == an) = false := by simpa using aw))
  (try (have dG : ¬ (ao = an) := by simpa using aw))
  clear aw
  (first | rw [aE] | (simp only [i64_w, i32_w]; rw [aE]) | skip)
  have H' := mA H
  clear H
  go_wp2
  go_meet
  case rel => exact ⟨_, (true), (eW), H', ⟨by first | omega | exact Nat.le_refl _⟩, ⟨by (with_reducible repeat (first | apply zC | apply zD | apply zA)); exact zB B.out (fun _ hk => trivial)⟩, ⟨by (with_reducible repeat (first | apply yD | apply yE | apply zW)); exact yC ae.out (fun _ hk => hk.2.2)⟩, ⟨bP a.out⟩, ⟨bP b.out⟩, ⟨bP c.out⟩, ⟨bP d.out⟩, ⟨bW⟩⟩
 case rest =>
  clear aZ cb bg bk bl bo bp bq br bx bz bC bD bH bI bJ bK bQ bR bS bT bZ b0 b3 b4 b5 b6 bm bn bs bu bv bw bA bB bF bG bL bM bN bO bU bV bX bY b1 b2 b7 b8 b9 ca
  obtain ⟨kq, aD, rfl, HA, dR, j, l, a, b, c, d, HB⟩ := hcut
  cases kq with
  | zero => exact absurd HA.out (by simp [Zay.j0])
  | succ aO =>
   have H := HA.out
   clear HA
   simp only [Zay.j0] at H
   by_cases bh : aD = true
   ·subst bh
    rw [if_pos rfl] at H
    exact absurd (oI H) (by rw [HTr_.out]; decide)
   replace bh := Bool.eq_false_iff.mpr bh
   subst bh
   rw [iF] at H
   replace H := bE H
   obtain ⟨⟨a0, a1⟩, A600, H⟩ := H
   try dsimp only at H
   have dg := mA A600
   clear A600
   replace H := bE H
   obtain ⟨cD, ch, H⟩ := H
   have dh := mA ch
   clear ch
   by_cases bi : cD = true; rotate_left
   ·replace bi := Bool.eq_false_iff.mpr bi
    subst bi
    rw [iF] at H
    exact absurd (oI H) (by rw [HTr_.out]; decide)
   subst bi
   rw [if_pos rfl] at H
   replace H := bE H
   obtain ⟨⟨a2, a3, a4, a5⟩, A630, H⟩ := H
   try dsimp only at H
   have di := mA A630
   clear A630
   replace H := bE H
   obtain ⟨cE, ci, H⟩ := H
   have dj := mA ci
   clear ci
   by_cases bj : cE = true; rotate_left
   ·replace bj := Bool.eq_false_iff.mpr bj
    subst bj
    rw [iF] at H
    exact absurd (oI H) (by rw [HTr_.out]; decide)
   subst bj
   rw [if_pos rfl] at H
   obtain rfl := oI H
   try go_wp2
   replace j := mA (zA j.out)
   replace l := mA (zW l.out)
   replace a := mA (Zad a.out)
   replace b := mA (Zad b.out)
   replace c := mA (Zad c.out)
   replace d := mA (Zad d.out)
   replace HB := mA (Za0 HB.out)
   refine Zcq (n := 5) (S := fun w' => w'.cell? ⟨A, 0, none⟩ = some (.int .i64 T) ∧ w'.cell? ⟨A, 1, none⟩ = some (.slice J u.length L) ∧ w'.cell? ⟨aa, 0, none⟩ = some (.int .i64 x) ∧ w'.cell? ⟨aa, 1, none⟩ = some (.slice O s.length P)) (ds := []) #[false, false, false, false, false] (by kernel_rfl) rfl rfl ⟨bc c 0, bc c 1, bc a 0, bc a 1⟩ (fun hHeld => ?_)
   generalize wc.drew = w66 at j l a b c d HB hHeld ⊢
   refine Za8 (i := 0) (N := some 48) (by kernel_rfl) hHeld ?_
   refine Za8 (i := 1) (N := some 49) (by kernel_rfl) hHeld ?_
   refine one_ (i := 2) (N := some 50) #[true, true, true, false, false] rfl rfl (by kernel_rfl) (by decide) (fun K hK => ?_)
   refine Zb6 Tryd.func8 (by kernel_rfl) rfl #[.agg #[.int .i64 x, .slice O s.length P]] (by rfl) rfl rfl (by (try simp only [List.map_toArray, List.map_cons, List.map_nil]); first | done | rfl | (simp only [List.length_drop, List.length_take]; rfl)) ?_
   with_reducible refine (Zcl.calls aO x _ _ s a0 a1 _ ?side1 ?side2 dg.out).mono ?_
   (case side1 => exact cP (zF ax.out HB.out))
   (case side2 => exact ay.out)
   rintro e d8 ⟨dS, rfl, W, hb⟩
   refine ⟨_, rfl, ?_⟩
   replace l := mA (xB (sP l.out) (zH W) hb)
   have X := mA (zP (zS W (zG (rP j.out))) (Zag (bW)))
   replace j := mA (zR (rP j.out) (zH W) hb)
   replace a := mA (blkB a.out hb)
   replace b := mA (blkB b.out hb)
   replace c := mA (blkB c.out hb)
   replace d := mA (blkB d.out hb)
   replace HB := mA (Zac (bW) hb)
   (try clear hb)
   (try clear hb2)
   (try clear hk)
   (try clear hi)
   (try clear W)
   obtain ⟨cF, cG, cj⟩ := zJ X.out
   (first | subst cj | (injection cj with aq aI ar; have aJ := aq.symm; have aK := ar.symm; clear aq aI ar; subst aJ; subst aK))
   refine hK.out _ _ ⟨bc c 0, bc c 1, bc a 0, bc a 1⟩ (fun hHeld => ?_)
   clear hK K
   refine putS 50 ?_
   refine one_ (i := 3) (N := some 51) #[true, true, true, true, false] rfl rfl (by kernel_rfl) (by decide) (fun K hK => ?_)
   refine Zb6 Tryd.func11 (by kernel_rfl) rfl #[.agg #[.int .i64 T, .slice J u.length L], .agg #[.int .i64 a0, .slice cF a1.length cG]] (by rfl) rfl rfl (by (try simp only [List.map_toArray, List.map_cons, List.map_nil]); first | done | rfl | (simp only [List.length_drop, List.length_take]; rfl)) ?_
   with_reducible refine (Zdf.calls aO T _ _ u a0 _ _ a1 true _ ?side1 ?side2 ?side3 ?side4 dh.out).mono ?_
   (case side1 => exact cP ((zE j.out).2.2))
   (case side2 => exact (zE j.out).2.1)
   (case side3 => exact cP ((zE X.out).2.2))
   (case side4 => exact (zE X.out).2.1)
   rintro e dk ⟨rfl, hb⟩
   refine ⟨_, rfl, ?_⟩
   replace j := mA (zK (rP j.out) hb)
   replace l := mA (yQ (sP l.out) hb)
   replace X := mA (zK (rP X.out) hb)
   replace a := mA (blkB a.out hb)
   replace b := mA (blkB b.out hb)
   replace c := mA (blkB c.out hb)
   replace d := mA (blkB d.out hb)
   replace HB := mA (Zac (bW) hb)
   (try clear hb)
   (try clear hb2)
   (try clear hk)
   (try clear hi)
   refine hK.out _ _ ⟨bc c 0, bc c 1, bc a 0, bc a 1⟩ (fun hHeld => ?_)
   clear hK K
   refine putS 51 ?_
   refine Zan (i := 4) (N := some 52) (by kernel_rfl) ?_
   refine Zcz (by kernel_rfl) ?_
   try go_wp2
   replace j := mA (zA j.out)
   replace l := mA (zW l.out)
   replace X := mA (zA X.out)
   replace a := mA (Zad a.out)
   replace b := mA (Zad b.out)
   replace c := mA (Zad c.out)
   replace d := mA (Zad d.out)
   replace HB := mA (Za0 HB.out)
   refine Zcq (n := 5) (S := fun w' => w'.cell? ⟨m, 0, none⟩ = some (.int .i64 U) ∧ w'.cell? ⟨m, 1, none⟩ = some (.int .i64 Y) ∧ w'.cell? ⟨m, 2, none⟩ = some (.int .i64 ad) ∧ w'.cell? ⟨m, 3, none⟩ = some (.slice af I.length ag) ∧ w'.cell? ⟨M, 0, none⟩ = some (.int .i64 D) ∧ w'.cell? ⟨M, 1, none⟩ = some (.int .i64 E) ∧ w'.cell? ⟨M, 2, none⟩ = some (.int .i64 G) ∧ w'.cell? ⟨M, 3, none⟩ = some (.slice ab y.length ac)) (ds := []) #[false, false, false, false, false] (by kernel_rfl) rfl rfl ⟨bc d 0, bc d 1, bc d 2, bc d 3, bc b 0, bc b 1, bc b 2, bc b 3⟩ (fun hHeld => ?_)
   generalize dk.drew = w70 at j l X a b c d HB hHeld ⊢
   refine Za8 (i := 0) (N := some 53) (by kernel_rfl) hHeld ?_
   refine Za8 (i := 1) (N := some 54) (by kernel_rfl) hHeld ?_
   refine one_ (i := 2) (N := some 55) #[true, true, true, false, false] rfl rfl (by kernel_rfl) (by decide) (fun K hK => ?_)
   refine Zb6 Tryd.func9 (by kernel_rfl) rfl #[.agg #[.int .i64 D, .int .i64 E, .int .i64 G, .slice ab y.length ac]] (by rfl) rfl rfl (by (try simp only [List.map_toArray, List.map_cons, List.map_nil]); first | done | rfl | (simp only [List.length_drop, List.length_take]; rfl)) ?_
   with_reducible refine (Zci.calls aO D E G _ _ y a2 a3 a4 a5 _ ?side1 ?side2 di.out).mono ?_
   (case side1 => exact cP (zF aA.out HB.out))
   (case side2 => exact aB.out)
   rintro e d9 ⟨dU, rfl, W, hb⟩
   refine ⟨_, rfl, ?_⟩
   have aF := mA (xQ (xU (xU (xU W (zG (rP j.out))) (Kd.S_lt (sP l.out))) (zG (rP X.out))) (Zag (bW)))
   replace j := mA (zK (rP j.out) hb)
   replace l := mA (xB (sP l.out) (Kd.S_base W) hb)
   replace X := mA (zK (rP X.out) hb)
   replace a := mA (blkB a.out hb)
   replace b := mA (blkB b.out hb)
   replace c := mA (blkB c.out hb)
   replace d := mA (blkB d.out hb)
   replace HB := mA (Zac (bW) hb)
   (try clear hb)
   (try clear hb2)
   (try clear hk)
   (try clear hi)
   (try clear W)
   obtain ⟨cH, cI, ck⟩ := xK aF.out
   (first | subst ck | (injection ck with aq aI ar; have aJ := aq.symm; have aK := ar.symm; clear aq aI ar; subst aJ; subst aK))
   refine hK.out _ _ ⟨bc d 0, bc d 1, bc d 2, bc d 3, bc b 0, bc b 1, bc b 2, bc b 3⟩ (fun hHeld => ?_)
   clear hK K
   refine putS 55 ?_
   refine one_ (i := 3) (N := some 56) #[true, true, true, true, false] rfl rfl (by kernel_rfl) (by decide) (fun K hK => ?_)
   refine Zb6 Tryd.func12 (by kernel_rfl) rfl #[.agg #[.int .i64 U, .int .i64 Y, .int .i64 ad, .slice af I.length ag], .agg #[.int .i64 a2, .int .i64 a3, .int .i64 a4, .slice cH a5.length cI]] (by rfl) rfl rfl (by (try simp only [List.map_toArray, List.map_cons, List.map_nil]); first | done | rfl | (simp only [List.length_drop, List.length_take]; rfl)) ?_
   with_reducible refine (Zc8.calls aO U Y ad _ _ I a2 a3 a4 _ _ a5 true _ ?side1 ?side2 ?side3 ?side4 dj.out).mono ?_
   (case side1 => exact cP ((yL l.out).2.2))
   (case side2 => exact (yL l.out).2.1)
   (case side3 => exact cP ((yL aF.out).2.2))
   (case side4 => exact (yL aF.out).2.1)
   rintro e ea ⟨rfl, hb⟩
   refine ⟨_, rfl, ?_⟩
   replace j := mA (zK (rP j.out) hb)
   replace l := mA (yQ (sP l.out) hb)
   replace X := mA (zK (rP X.out) hb)
   replace aF := mA (yQ (sP aF.out) hb)
   replace a := mA (blkB a.out hb)
   replace b := mA (blkB b.out hb)
   replace c := mA (blkB c.out hb)
   replace d := mA (blkB d.out hb)
   replace HB := mA (Zac (bW) hb)
   (try clear hb)
   (try clear hb2)
   (try clear hk)
   (try clear hi)
   refine hK.out _ _ ⟨bc d 0, bc d 1, bc d 2, bc d 3, bc b 0, bc b 1, bc b 2, bc b 3⟩ (fun hHeld => ?_)
   clear hK K
   refine putS 56 ?_
   refine Zan (i := 4) (N := some 57) (by kernel_rfl) ?_
   refine Zcz (by kernel_rfl) ?_
   try go_wp2
   go_ret
   exact ⟨eW, bW⟩
end Go.Proofs.YtgindgodfcfgkaaDoor.P
end M0
section M1
namespace Go.Proofs.YtgindgodfcfgkaaDoor.Op
open Go.RowKit Go.Proofs.YtgindgodfcfgkaaDoorW.PrintWords Go.Proofs.YtgindgodfcfgkaaDoorW.PrintLast Go.Proofs.YtgindgodfcfgkaaDoorW.PrintMore
open Kd
/-- What is read at type t lies in memory as kind d says. -/
def Opens {α : Type} (P : Program) (t : TypeId) (d : Kd α) (ok : α → Prop) : Prop :=
  ∀ (H : Type) (enc : TypeId × Value → H) (w : World) (base : Nat) (held : Bool) (fuel : Nat) (cs : List Value) (x : DataW H × List MemPlace),
    DataW.trod enc P w base (fun _ => true) held fuel t cs = some x → ∃ a, d.K w a cs ∧ ok a
theorem opens_int {P : Program} {t : TypeId} {k : IntKind} (ht : P.underlying t = some (.int k)) : Opens P t (Kd.int k) (fun n => (Lit.int k n).wf = true) := by
  intro H enc w base held fuel cs x h
  obtain ⟨n, rfl, _, hw⟩ := DataW.trod_int ht h
  exact ⟨n, rfl, hw⟩
theorem opens_slice {α : Type} {P : Program} {t e : TypeId} {d : Kd α} {ok : α → Prop} (ht : P.underlying t = some (.slice e)) (hc : P.cellsOf e = d.sz) (he : Opens P e d ok) :
    Opens P t (Kd.slice e d) (fun xs => xs.length ≤ maxLen ∧ ∀ x ∈ xs, ok x) := by
  intro H enc w base held fuel cs x h
  rcases DataW.trod_slice ht h with ⟨rfl, _⟩ | ⟨a, len, cap, elems, rest, n, _, rfl, _, hb, hl, hm, hlen, hel, _, _⟩
  · exact ⟨[], ⟨none, 0, rfl, Nat.le_refl _, rfl, by simp, fun h => absurd h (by simp)⟩, by simp, by simp⟩
  · have each : ∀ i, i < len → ∃ y : α × List Value, y.2.length = d.sz ∧ d.K w y.1 y.2 ∧ ok y.1 ∧ ∀ j u, y.2[j]? = some u → w.cell? (a.add (i * d.sz + j)) = some u := by
      intro i hi
      have h1 := hel i hi
      rw [List.getElem?_eq_getElem (by omega), Option.bind_eq_some_iff] at h1
      obtain ⟨cs', h2, h3⟩ := h1
      obtain ⟨y, hk, ho⟩ := he _ _ _ _ _ _ _ _ h3
      obtain ⟨_, h5, h6⟩ := World.cells?_some h2
      refine ⟨(y, cs'), h5.trans hc, hk, ho, fun j u hj => ?_⟩
      have hjl : j < P.cellsOf e := by rw [← h5]; exact (List.getElem?_eq_some_iff.1 hj).1
      have h7 := h6 j hjl
      rw [hj, hc] at h7
      rw [← Addr.add_add]
      exact h7
    have hy := fun i : Fin len => Classical.choose_spec (each i.1 i.2)
    generalize hY : (fun i : Fin len => Classical.choose (each i.1 i.2)) = y at hy
    have hy' : ∀ i : Fin len, (y i).2.length = d.sz ∧ d.K w (y i).1 (y i).2 ∧ ok (y i).1 ∧ ∀ j u, (y i).2[j]? = some u → w.cell? (a.add (i.1 * d.sz + j)) = some u := by
      intro i; rw [← hY]; exact hy i
    clear hy hY
    have hln : (List.ofFn fun i => (y i).1).length = len := by simp
    refine ⟨List.ofFn fun i => (y i).1, ⟨some a, cap, by rw [hln], by rw [hln]; exact hl, ?_⟩, by rw [hln]; omega, ?_⟩
    · refine ⟨rfl, by rw [hln]; unfold maxLen at hm; omega, fun _ => ⟨a, rfl, fun j p hj => ?_⟩⟩
      have hjl : j < len := by rw [← hln]; exact (List.getElem?_eq_some_iff.1 hj).1
      rw [List.getElem?_ofFn, dif_pos hjl, Option.some.injEq] at hj
      subst hj
      obtain ⟨q1, q2, _, q4⟩ := hy' ⟨j, hjl⟩
      exact ⟨(y ⟨j, hjl⟩).2, q1, q2, fun i u hi => q4 i u hi⟩
    · intro x hx
      rw [List.mem_ofFn] at hx
      obtain ⟨i, rfl⟩ := hx
      exact (hy' i).2.2.1
/-- An argument that is a slice. -/
theorem open_row {α : Type} {P : Program} {t e : TypeId} {d : Kd α} {ok : List α → Prop} {H : Type} {enc : TypeId × Value → H} {w : World} {base fuel : Nat} {held : Bool} {v : Value} {x : DataW H × List MemPlace}
    (h : DataW.trod enc P w base (fun _ => true) held fuel t [v] = some x) (hs : Opens P t (Kd.slice e d) ok) : ∃ A c xs, v = .slice A xs.length c ∧ xs.length ≤ c ∧ d.C w A xs.length xs ∧ ok xs := by
  obtain ⟨xs, ⟨A, c, hv, hl, hr⟩, ho⟩ := hs _ _ _ _ _ _ _ _ h
  exact ⟨A, c, xs, by simpa using hv, hl, hr, ho⟩
end Go.Proofs.YtgindgodfcfgkaaDoor.Op
end M1
section M2
namespace Go.Proofs.YtgindgodfcfgkaaDoor.U
open Go.RowKit Go.Proofs.YtgindgodfcfgkaaDoorW.PrintWords Go.Proofs.YtgindgodfcfgkaaDoorW.PrintLast
open Kd
set_option linter.unusedVariables false
theorem w64 {n : Int} (h0 : -9223372036854775808 ≤ n) (h1 : n ≤ 9223372036854775807) : wrap64 n = n := by unfold wrap64; omega
theorem w64s {n : Nat} (h : n < 9223372036854775807) : wrap64 ((n : Int) + 1) = ((n + 1 : Nat) : Int) := by unfold wrap64; omega
theorem rdn (l : List Int) (i : Nat) : rd l (i : Int) = l.getD i 0 := rfl
theorem rd_lt {l : List Int} {i : Nat} (h : i < l.length) : rd l (i : Int) = l[i] := by
  show l.getD i 0 = _; rw [List.getD_eq_getElem?_getD, List.getElem?_eq_getElem h]; rfl
theorem rdOf_lt {α : Type} {d : α} {l : List α} {i : Nat} (h : i < l.length) : rdOf d l (i : Int) = l[i] := by
  show l.getD i d = _; rw [List.getD_eq_getElem?_getD, List.getElem?_eq_getElem h]; rfl
theorem Ev.now' {α : Type} {g : Nat → Option α} {r : α} (h : ∀ k, g k = some r) : Ev g r := ⟨0, fun k _ => h k⟩
/-- One round more, the loop's own equation still to be unfolded. -/
theorem Ev.round {α : Type} {g : Nat → Option α} {r : α} (h : Ev (fun k => g (k + 1)) r) : Ev g r := by
  obtain ⟨K, h⟩ := h
  refine ⟨K + 1, fun n hn => ?_⟩
  obtain ⟨m, rfl⟩ : ∃ m, n = m + 1 := ⟨n - 1, by omega⟩
  exact h m (by omega)
theorem Ev.here {α β : Type} {g : Option α} {f : Nat → α → Option β} {a : α} {r : β} (h : g = some a) (k : Ev (fun n => f n a) r) : Ev (fun n => g.bind (f n)) r := by
  subst h; exact k
theorem Ev.yes {α : Type} {c : Prop} [Decidable c] {A B : Nat → Option α} {r : α} (h : c) (k : Ev A r) : Ev (fun n => if c then A n else B n) r := Ev.congr (fun _ => if_pos h) k
theorem Ev.no {α : Type} {c : Prop} [Decidable c] {A B : Nat → Option α} {r : α} (h : ¬ c) (k : Ev B r) : Ev (fun n => if c then A n else B n) r := Ev.congr (fun _ => if_neg h) k
/-- An upward loop over an index: what it comes to from i on, if what one round does is known. -/
theorem Ev.up {σ ρ : Type} (L : Nat → σ → Int → Option ρ) (n : Nat) (R : Nat → σ → ρ) (I : Nat → σ → Prop)
    (hend : ∀ s, I n s → Ev (fun k => L k s (n : Int)) (R n s))
    (hstep : ∀ i s, i < n → I i s → (∀ s', I (i + 1) s' → Ev (fun k => L k s' ((i + 1 : Nat) : Int)) (R (i + 1) s')) → Ev (fun k => L k s (i : Int)) (R i s)) :
    ∀ i s, i ≤ n → I i s → Ev (fun k => L k s (i : Int)) (R i s) := by
  intro i s hi hI
  obtain ⟨d, hd⟩ : ∃ d, n - i = d := ⟨_, rfl⟩
  induction d generalizing i s with
  | zero =>
    have : i = n := by omega
    subst this
    exact hend s hI
  | succ d ih => exact hstep i s (by omega) hI (fun s' h' => ih (i + 1) s' (by omega) h' (by omega))
/-- The rounds come to something that Q says. -/
def EvP {α : Type} (g : Nat → Option α) (Q : α → Prop) : Prop := ∃ r, Ev g r ∧ Q r
theorem EvP.ret {α : Type} {Q : α → Prop} {r : α} (q : Q r) : EvP (fun _ => some r) Q := ⟨r, Ev.now r, q⟩
theorem EvP.mono {α : Type} {g : Nat → Option α} {Q Q' : α → Prop} (h : EvP g Q) (k : ∀ r, Q r → Q' r) : EvP g Q' := by
  obtain ⟨r, h, q⟩ := h; exact ⟨r, h, k r q⟩
theorem EvP.round {α : Type} {g : Nat → Option α} {Q : α → Prop} (h : EvP (fun k => g (k + 1)) Q) : EvP g Q := by
  obtain ⟨r, h, q⟩ := h; exact ⟨r, Ev.round h, q⟩
theorem EvP.yes {α : Type} {c : Prop} [Decidable c] {A B : Nat → Option α} {Q : α → Prop} (h : c) (k : EvP A Q) : EvP (fun n => if c then A n else B n) Q := by
  obtain ⟨r, k, q⟩ := k; exact ⟨r, Ev.yes h k, q⟩
theorem EvP.no {α : Type} {c : Prop} [Decidable c] {A B : Nat → Option α} {Q : α → Prop} (h : ¬ c) (k : EvP B Q) : EvP (fun n => if c then A n else B n) Q := by
  obtain ⟨r, k, q⟩ := k; exact ⟨r, Ev.no h k, q⟩
theorem EvP.here {α β : Type} {g : Option α} {f : Nat → α → Option β} {a : α} {Q : β → Prop} (h : g = some a) (k : EvP (fun n => f n a) Q) : EvP (fun n => g.bind (f n)) Q := by
  obtain ⟨r, k, q⟩ := k; exact ⟨r, Ev.here h k, q⟩
theorem EvP.bind {α β : Type} {g : Nat → Option α} {f : Nat → α → Option β} {a : α} {Q : β → Prop} (h : Ev g a) (k : EvP (fun n => f n a) Q) : EvP (fun n => (g n).bind (f n)) Q := by
  obtain ⟨r, k, q⟩ := k; exact ⟨r, Ev.bind h k, q⟩
theorem EvP.bindP {α β : Type} {g : Nat → Option α} {f : Nat → α → Option β} {R : α → Prop} {Q : β → Prop} (h : EvP g R) (k : ∀ a, R a → EvP (fun n => f n a) Q) : EvP (fun n => (g n).bind (f n)) Q := by
  obtain ⟨a, h, q⟩ := h; exact EvP.bind h (k a q)
theorem EvP.up {σ ρ : Type} (L : Nat → σ → Int → Option ρ) (Q : ρ → Prop) (n : Nat) (I : Nat → σ → Prop)
    (hend : ∀ s, I n s → EvP (fun k => L k s (n : Int)) Q)
    (hstep : ∀ i s, i < n → I i s → (∀ s', I (i + 1) s' → EvP (fun k => L k s' ((i + 1 : Nat) : Int)) Q) → EvP (fun k => L k s (i : Int)) Q) :
    ∀ i s, i ≤ n → I i s → EvP (fun k => L k s (i : Int)) Q := by
  intro i s hi hI
  obtain ⟨d, hd⟩ : ∃ d, n - i = d := ⟨_, rfl⟩
  induction d generalizing i s with
  | zero =>
    have : i = n := by omega
    subst this
    exact hend s hI
  | succ d ih => exact hstep i s (by omega) hI (fun s' h' => ih (i + 1) s' (by omega) h' (by omega))
theorem EvP.ex {α : Type} {g : Nat → Option α} {Q : α → Prop} (h : EvP g Q) : ∃ r, Q r ∧ Ev g r := by
  obtain ⟨r, h, q⟩ := h; exact ⟨r, q, h⟩
/-- How many are still false. -/
def Zb3 (l : List Bool) : Nat := l.count false
theorem falses_set {l : List Bool} {i : Nat} (hi : i < l.length) (h : l[i] = false) : Zb3 (l.set i true) + 1 = Zb3 l := by
  induction l generalizing i with
  | nil => simp at hi
  | cons b l ih =>
    cases i with
    | zero =>
      simp only [List.getElem_cons_zero] at h
      subst h
      simp [Zb3]
    | succ i =>
      simp only [List.getElem_cons_succ] at h
      have := ih (by simpa using hi) h
      simp only [List.set_cons_succ, Zb3, List.count_cons] at this ⊢
      omega
end Go.Proofs.YtgindgodfcfgkaaDoor.U
end M2
section M3
namespace Go.Proofs.YtgindgodfcfgkaaDoor.U
open Go.RowKit Go.Proofs.YtgindgodfcfgkaaDoor.P Go.Proofs.YtgindgodfcfgkaaDoorW.PrintWords Go.Proofs.YtgindgodfcfgkaaDoorW.PrintLast
open Kd
set_option linter.unusedVariables false
theorem toS (x0 : List Int) (hn : x0.length ≤ 35184372088832) : Ev (fun k => Zbx.f k x0) x0 := by
  have key := Ev.up (fun k s i => Zbx.l0 k x0 s i) x0.length (fun _ _ => x0) (fun i s => s.length = x0.length ∧ ∀ j, j < i → s[j]? = x0[j]?)
    (fun s ⟨h1, h2⟩ => by
      refine Ev.round ?_
      simp only [Zbx.l0]
      refine Ev.no (by omega) ?_
      have : s = x0 := List.ext_getElem? fun j => by
        by_cases hj : j < x0.length
        · exact h2 j hj
        · rw [List.getElem?_eq_none (by omega), List.getElem?_eq_none (by omega)]
      rw [this]
      exact Ev.now _)
    (fun i s hi ⟨h1, h2⟩ ih => by
      refine Ev.round ?_
      simp only [Zbx.l0]
      refine Ev.yes (by omega) (Ev.yes (by omega) (Ev.yes (by omega) ?_))
      rw [w64s (by omega)]
      refine ih _ ⟨by simp [h1], fun j hj => ?_⟩
      rw [Int.toNat_natCast, rd_lt hi]
      by_cases e : j = i
      · subst e
        rw [List.getElem?_set_self (by omega), List.getElem?_eq_getElem hi]
      · rw [List.getElem?_set_ne (by omega)]
        exact h2 j (by omega))
  unfold Zbx.f
  refine Ev.yes (by omega) (Ev.yes (by omega) ?_)
  have := key 0 (List.replicate x0.length 0) (by omega) ⟨by simp, fun j hj => absurd hj (by omega)⟩
  simpa using this
theorem toSS (x0 : List (List Int)) (hn : x0.length ≤ 1048576) (hr : ∀ x ∈ x0, x.length ≤ 1048576) : Ev (fun k => Zbz.f k x0) x0 := by
  have key := Ev.up (fun k s i => Zbz.l0 k x0 s i) x0.length (fun _ _ => x0) (fun i s => s.length = x0.length ∧ ∀ j, j < i → s[j]? = x0[j]?)
    (fun s ⟨h1, h2⟩ => by
      refine Ev.round ?_
      simp only [Zbz.l0]
      refine Ev.no (by omega) ?_
      have : s = x0 := List.ext_getElem? fun j => by
        by_cases hj : j < x0.length
        · exact h2 j hj
        · rw [List.getElem?_eq_none (by omega), List.getElem?_eq_none (by omega)]
      rw [this]
      exact Ev.now _)
    (fun i s hi ⟨h1, h2⟩ ih => by
      refine Ev.round ?_
      simp only [Zbz.l0]
      refine Ev.yes (by omega) (Ev.yes (by omega) ?_)
      have hg : Zae x0 (i : Int) = x0[i] := rdOf_lt (d := []) hi
      rw [hg]
      refine Ev.bind (toS x0[i] (by have := hr _ (List.getElem_mem hi); omega)) (Ev.yes (by omega) ?_)
      rw [w64s (by omega)]
      refine ih _ ⟨by simp [h1], fun j hj => ?_⟩
      rw [Int.toNat_natCast]
      by_cases e : j = i
      · subst e
        rw [List.getElem?_set_self (by omega), List.getElem?_eq_getElem hi]
      · rw [List.getElem?_set_ne (by omega)]
        exact h2 j (by omega))
  unfold Zbz.f
  refine Ev.yes (by omega) (Ev.yes (by omega) ?_)
  have := key 0 (List.replicate x0.length []) (by omega) ⟨by simp, fun j hj => absurd hj (by omega)⟩
  simpa using this
theorem eqS (a b : List Int) (hn : a.length ≤ 9223372036854775806) : Ev (fun k => Zbj.f k a b) (decide (a = b)) := by
  unfold Zbj.f
  by_cases hl : a.length = b.length
  · refine Ev.yes (by omega) ?_
    have key := Ev.up (fun k (_ : Unit) i => Zbj.l0 k a b i) a.length (fun _ _ => decide (a = b)) (fun i _ => ∀ j, j < i → a[j]? = b[j]?)
      (fun _ h2 => by
        refine Ev.round ?_
        simp only [Zbj.l0]
        refine Ev.no (by omega) ?_
        have : a = b := List.ext_getElem? fun j => by
          by_cases hj : j < a.length
          · exact h2 j hj
          · rw [List.getElem?_eq_none (by omega), List.getElem?_eq_none (by omega)]
        rw [decide_eq_true this]
        exact Ev.now _)
      (fun i _ hi h2 ih => by
        refine Ev.round ?_
        simp only [Zbj.l0]
        refine Ev.yes (by omega) (Ev.yes (by omega) (Ev.yes (by omega) ?_))
        rw [rd_lt hi, rd_lt (by omega : i < b.length), w64s (by omega)]
        by_cases e : a[i] = b[i]
        · refine Ev.yes e (ih () fun j hj => ?_)
          by_cases e' : j = i
          · subst e'
            rw [List.getElem?_eq_getElem hi, List.getElem?_eq_getElem (by omega), e]
          · exact h2 j (by omega)
        · refine Ev.no e ?_
          rw [decide_eq_false (fun h => e (by subst h; rfl))]
          exact Ev.now _)
    have := key 0 () (by omega) (fun j hj => absurd hj (by omega))
    simpa using this
  · refine Ev.no (by omega) ?_
    rw [decide_eq_false (fun h => hl (by rw [h]))]
    exact Ev.now _
theorem eqSS (a b : List (List Int)) (hn : a.length ≤ 9223372036854775806) (hr : ∀ x ∈ a, x.length ≤ 9223372036854775806) : Ev (fun k => Zbu.f k a b) (decide (a = b)) := by
  unfold Zbu.f
  by_cases hl : a.length = b.length
  · refine Ev.yes (by omega) ?_
    have key := Ev.up (fun k (_ : Unit) i => Zbu.l0 k a b i) a.length (fun _ _ => decide (a = b)) (fun i _ => ∀ j, j < i → a[j]? = b[j]?)
      (fun _ h2 => by
        refine Ev.round ?_
        simp only [Zbu.l0]
        refine Ev.no (by omega) ?_
        have : a = b := List.ext_getElem? fun j => by
          by_cases hj : j < a.length
          · exact h2 j hj
          · rw [List.getElem?_eq_none (by omega), List.getElem?_eq_none (by omega)]
        rw [decide_eq_true this]
        exact Ev.now _)
      (fun i _ hi h2 ih => by
        refine Ev.round ?_
        simp only [Zbu.l0]
        refine Ev.yes (by omega) (Ev.yes (by omega) (Ev.yes (by omega) ?_))
        have hg : Zae a (i : Int) = a[i] := rdOf_lt (d := []) hi
        have c : Zae b (i : Int) = b[i] := rdOf_lt (d := []) (by omega)
        rw [hg, c, w64s (by omega)]
        refine Ev.bind (eqS a[i] b[i] (hr _ (List.getElem_mem hi))) ?_
        by_cases e : a[i] = b[i]
        · rw [decide_eq_true e]
          refine Ev.yes rfl (ih () fun j hj => ?_)
          by_cases e' : j = i
          · subst e'
            rw [List.getElem?_eq_getElem hi, List.getElem?_eq_getElem (by omega), e]
          · exact h2 j (by omega)
        · rw [decide_eq_false e]
          refine Ev.no (by simp) ?_
          rw [decide_eq_false (fun h => e (by subst h; rfl))]
          exact Ev.now _)
    have := key 0 () (by omega) (fun j hj => absurd hj (by omega))
    simpa using this
  · refine Ev.no (by omega) ?_
    rw [decide_eq_false (fun h => hl (by rw [h]))]
    exact Ev.now _
/-- The size of a list of lists as the laws count it. -/
def sz2 (x : List (List Int)) : Nat := x.length + (x.map List.length).sum
theorem szSS (x0 : List (List Int)) (hn : x0.length ≤ maxLen) (hr : ∀ x ∈ x0, x.length ≤ maxLen) (a : Nat) (ha : a ≤ 1048576) :
    Ev (fun k => Zbt.f k x0 a) (if sz2 x0 ≤ a then ((a - sz2 x0 : Nat) : Int) else -1) := by
  unfold maxLen at hn hr
  have hrd : ∀ i, i < x0.length → Zae x0 (i : Int) = x0.getD i [] := fun i hi => rfl
  have key := Ev.up (fun k (s : Nat) i => Zbt.l0 k x0 (s : Int) i) x0.length
    (fun i s => if ((x0.drop i).map List.length).sum ≤ s then ((s - ((x0.drop i).map List.length).sum : Nat) : Int) else -1) (fun _ s => s ≤ 1048576)
    (fun s hs => by
      refine Ev.round ?_
      simp only [Zbt.l0]
      refine Ev.no (by omega) ?_
      simp only [List.drop_length, List.map_nil, List.sum_nil, Nat.zero_le, if_true, Nat.sub_zero]
      exact Ev.now _)
    (fun i s hi hs ih => by
      refine Ev.round ?_
      simp only [Zbt.l0]
      refine Ev.yes (by omega) (Ev.yes (by omega) ?_)
      have hg : Zae x0 (i : Int) = x0[i] := rdOf_lt (d := []) hi
      rw [hg, w64s (by omega)]
      have hx := hr _ (List.getElem_mem hi)
      have hd : x0.drop i = x0[i] :: x0.drop (i + 1) := List.drop_eq_getElem_cons hi
      rw [hd, List.map_cons, List.sum_cons]
      have hw : wrap64 ((s : Int) - (x0[i].length : Int)) = (s : Int) - (x0[i].length : Int) := w64 (by omega) (by omega)
      have hf : Zcs.f x0[i] (s : Int) = some (if x0[i].length ≤ s then ((s - x0[i].length : Nat) : Int) else -1) := by
        unfold Zcs.f
        rw [hw]
        by_cases h : x0[i].length ≤ s
        · rw [if_neg (by omega), if_pos h]; congr 1; omega
        · rw [if_pos (by omega), if_neg h]
      refine Ev.here hf ?_
      by_cases h : x0[i].length ≤ s
      · rw [if_pos h]
        refine Ev.no (by omega) ?_
        have := ih (s - x0[i].length) (by omega)
        by_cases h2 : ((x0.drop (i + 1)).map List.length).sum ≤ s - x0[i].length
        · rw [if_pos h2] at this
          rw [if_pos (by omega), show s - (x0[i].length + ((x0.drop (i + 1)).map List.length).sum) = s - x0[i].length - ((x0.drop (i + 1)).map List.length).sum from by omega]
          exact this
        · rw [if_neg h2] at this
          rw [if_neg (by omega)]
          exact this
      · rw [if_neg h]
        refine Ev.yes (by omega) ?_
        rw [if_neg (by omega)]
        exact Ev.now _)
  unfold Zbt.f
  have hw : wrap64 ((a : Int) - (x0.length : Int)) = (a : Int) - (x0.length : Int) := w64 (by omega) (by omega)
  rw [hw]
  unfold sz2
  by_cases h : x0.length ≤ a
  · refine Ev.no (by omega) ?_
    have := key 0 (a - x0.length) (by omega) (by omega)
    rw [show ((a - x0.length : Nat) : Int) = (a : Int) - (x0.length : Int) from by omega] at this
    simp only [List.drop_zero] at this
    by_cases h2 : (x0.map List.length).sum ≤ a - x0.length
    · rw [if_pos h2] at this
      rw [if_pos (by omega), show a - (x0.length + (x0.map List.length).sum) = a - x0.length - (x0.map List.length).sum from by omega]
      exact this
    · rw [if_neg h2] at this
      rw [if_neg (by omega)]
      exact this
  · refine Ev.yes (by omega) ?_
    rw [if_neg (by omega)]
    exact Ev.now _
theorem le_sum {l : List Nat} {a : Nat} (h : a ∈ l) : a ≤ l.sum := by
  induction l with
  | nil => cases h
  | cons b l ih =>
    rw [List.sum_cons]
    rcases List.mem_cons.1 h with rfl | h
    · omega
    · have := ih h; omega
theorem le_sz2 {x0 : List (List Int)} {x : List Int} (h : x ∈ x0) : x.length ≤ sz2 x0 := by
  unfold sz2
  have : x.length ∈ x0.map List.length := List.mem_map.2 ⟨x, h, rfl⟩
  have := le_sum this
  omega
end Go.Proofs.YtgindgodfcfgkaaDoor.U
end M3
section M4
namespace Go.Proofs.YtgindgodfcfgkaaDoor.U
open Go.RowKit Go.Proofs.YtgindgodfcfgkaaDoor.P Go.Proofs.YtgindgodfcfgkaaDoorW.PrintWords Go.Proofs.YtgindgodfcfgkaaDoorW.PrintLast
open Kd
set_option linter.unusedVariables false
theorem spIn (a lo hi : Int) : Zau.f a lo hi = some (inRB a lo hi) := by
  unfold Zau.f inRB
  by_cases h : lo ≤ a
  · rw [if_pos h, decide_eq_true h, Bool.true_and]
  · rw [if_neg h, decide_eq_false h, Bool.false_and]
theorem u64w {n : Int} (h0 : 0 ≤ n) (h1 : n < 18446744073709551616) : IntKind.u64.wrap n = n := by
  show n % 18446744073709551616 = n
  omega
theorem spOne {n : Int} (h0 : 0 ≤ n) (h1 : n < 18446744073709551616) : Zda.f n = some (shl .i64 1 n) := by
  unfold Zda.f
  rw [u64w h0 h1, if_pos h0]
theorem maskB_eq {F n : Int} (h0 : 0 ≤ n) (h1 : n ≤ 24) : maskB F n = inRB F 0 (wrap64 (shl .i64 1 n - 1)) := by
  unfold maskB Zdn.f
  rw [inRange_some]
  have : inRB n 0 24 = true := by unfold inRB; simp; omega
  rw [this]
  simp only [Option.bind_some, if_true]
  unfold Zdl.f
  rw [if_pos h0]
  simp only [Option.bind_some]
  rw [inRange_some]
  rfl
theorem spFull {n : Int} (h0 : 0 ≤ n) (h1 : n < 18446744073709551616) : Zb4.f n = some (wrap64 (shl .i64 1 n - 1)) := by
  unfold Zb4.f
  rw [spOne h0 h1]
  rfl
theorem l11Is_loop (L S F : Int) (N : List (List Int)) (hn : N.length ≤ 16) (hL : L ≤ 8) : Ev (fun k => Zbb.l0 k (N.length : Int) 0 L S F N) (!(N.any (badRow L N.length))) := by
  have key := Ev.up (fun k (_ : Unit) i => Zbb.l0 k (N.length : Int) i L S F N) N.length (fun i _ => !((N.drop i).any (badRow L N.length))) (fun _ _ => True)
    (fun _ _ => by
      refine Ev.round ?_
      simp only [Zbb.l0]
      refine Ev.no (by omega) ?_
      rw [List.drop_length]
      exact Ev.now _)
    (fun i _ hi _ ih => by
      refine Ev.round ?_
      simp only [Zbb.l0]
      have hg : Zae N (i : Int) = N[i] := rdOf_lt (d := []) hi
      refine Ev.yes (by omega) (Ev.yes (by omega) (Ev.yes (by omega) ?_))
      rw [hg, List.drop_eq_getElem_cons hi, List.any_cons]
      by_cases hl : (N[i].length : Int) = L
      · refine Ev.yes hl ?_
        have inner := Ev.up (fun k (_ : Unit) j => Zbb.l1 k (N.length : Int) (i : Int) j L S F N) N[i].length
          (fun j _ => ((N[i].drop j).all fun t => decide (-1 ≤ t) && decide (t ≤ (N.length : Int) - 1)) && !((N.drop (i + 1)).any (badRow L N.length))) (fun _ _ => True)
          (fun _ _ => by
            refine Ev.round ?_
            simp only [Zbb.l1]
            refine Ev.no (by omega) ?_
            rw [List.drop_length, w64s (by omega)]
            simpa using ih () trivial)
          (fun j _ hj _ ihj => by
            refine Ev.round ?_
            simp only [Zbb.l1]
            rw [hg]
            refine Ev.yes (by omega) (Ev.yes (by omega) (Ev.yes (by omega) (Ev.yes (by omega) (Ev.yes (by omega) ?_))))
            rw [rd_lt hj, w64 (n := (N.length : Int) - 1) (by omega) (by omega), w64s (by omega)]
            refine Ev.here (spIn _ _ _) ?_
            rw [List.drop_eq_getElem_cons hj, List.all_cons]
            show Ev _ ((inRB N[i][j] (-1) ((N.length : Int) - 1) && _) && _)
            cases hb : inRB N[i][j] (-1) ((N.length : Int) - 1)
            · exact Ev.no (by simp) (Ev.now _)
            · refine Ev.yes rfl ?_
              simpa using ihj () trivial)
        have h0 := inner 0 () (by omega) trivial
        have hb : badRow L N.length N[i] = !(N[i].all fun t => decide (-1 ≤ t) && decide (t ≤ (N.length : Int) - 1)) := by unfold badRow; rw [decide_eq_true hl]; simp
        rw [hb, Bool.not_or, Bool.not_not]
        simpa using h0
      · refine Ev.no hl ?_
        have hb : badRow L N.length N[i] = true := by unfold badRow; rw [decide_eq_false hl]; simp
        rw [hb]
        exact Ev.now _)
  have := key 0 () (by omega) trivial
  simpa using this
theorem l11Is_ev (L S F : Int) (N : List (List Int)) (hN : N.length ≤ 9223372036854775807) : Ev (fun k => Zbb.f k L S F N) (isAut L S F N) := by
  unfold Zbb.f isAut
  refine Ev.here (show Zbr.f L S F N = some (N.length : Int) from rfl) ?_
  refine Ev.here (spIn _ _ _) ?_
  have hno : ∀ x3, Ev (fun k => Zbb.j0 k x3 true L S F N) false := fun x3 => Ev.round (by simp only [Zbb.j0]; exact Ev.yes (by trivial) (Ev.now _))
  cases h1 : inRB L 0 8
  · exact Ev.no (by simp) (hno _)
  refine Ev.yes rfl (Ev.here (spIn _ _ _) ?_)
  cases h2 : inRB (N.length : Int) 1 16
  · exact Ev.no (by simp) (hno _)
  have a := h2
  unfold inRB at h1 a
  simp only [Bool.and_eq_true, decide_eq_true_eq] at h1 a
  refine Ev.yes rfl ?_
  rw [w64 (n := (N.length : Int) - 1) (by omega) (by omega)]
  refine Ev.here (spIn _ _ _) ?_
  cases h3 : inRB S 0 ((N.length : Int) - 1)
  · exact Ev.no (by simp) (hno _)
  refine Ev.yes rfl (Ev.here (spFull (by omega) (by omega)) (Ev.here (spIn _ _ _) ?_))
  rw [← maskB_eq (by omega) (by omega)]
  cases h4 : maskB F N.length
  · exact hno _
  · refine Ev.round ?_
    simp only [Zbb.j0]
    refine Ev.no (by simp) ?_
    simpa using l11Is_loop L S F N (by omega) h1.2
theorem toA (a b c : Int) (l : List (List Int)) (h : sz2 l ≤ 1048576) : Ev (fun k => Zci.f k a b c l) (a, b, c, l) := by
  unfold Zci.f
  refine Ev.bind (toSS l (by unfold sz2 at h; omega) (fun x hx => by have := le_sz2 hx; omega)) (Ev.now _)
theorem eqA (a b c : Int) (l : List (List Int)) (h : sz2 l ≤ 1048576) : Ev (fun k => Zc8.f k a b c l a b c l) true := by
  unfold Zc8.f
  refine Ev.yes rfl (Ev.yes rfl (Ev.yes rfl ?_))
  refine Ev.bind (eqSS l l (by unfold sz2 at h; omega) (fun x hx => by have := le_sz2 hx; omega)) ?_
  rw [decide_eq_true rfl]
  exact Ev.yes rfl (Ev.now _)
end Go.Proofs.YtgindgodfcfgkaaDoor.U
end M4
section M5
namespace Go.Proofs.YtgindgodfcfgkaaDoor.U
open Go.RowKit Go.Proofs.YtgindgodfcfgkaaDoor.P Go.Proofs.YtgindgodfcfgkaaDoorW.PrintWords Go.Proofs.YtgindgodfcfgkaaDoorW.PrintLast
open Kd
set_option linter.unusedVariables false
/-- The rows of a machine: each of as many places as there are letters, each place a state or -1. -/
def Zcu (L : Int) (N : List (List Int)) : Prop := ∀ row ∈ N, (row.length : Int) = L ∧ ∀ t ∈ row, -1 ≤ t ∧ t < N.length
structure AutOK (L S F : Int) (N : List (List Int)) : Prop where
  l0 : 0 ≤ L
  l8 : L ≤ 8
  n1 : 1 ≤ N.length
  n16 : N.length ≤ 16
  s0 : 0 ≤ S
  sn : S < N.length
  mask : maskB F N.length = true
  rows : Zcu L N
theorem isAut_ok {L S F : Int} {N : List (List Int)} (h : isAut L S F N = true) : AutOK L S F N := by
  unfold isAut inRB at h
  simp only [Bool.and_eq_true, decide_eq_true_eq, Bool.not_eq_true', List.any_eq_false] at h
  obtain ⟨⟨a, b⟩, ⟨c, d⟩, ⟨e, f⟩, g, i⟩ := h
  refine ⟨a, b, by omega, by omega, e, by omega, g, fun row hr => ?_⟩
  have := i row hr
  unfold badRow at this
  simp only [Bool.or_eq_true, Bool.not_eq_true', decide_eq_false_iff_not, not_or, Decidable.not_not, Bool.not_eq_false, List.all_eq_true, Bool.and_eq_true, decide_eq_true_eq] at this
  exact ⟨this.1, fun t ht => ⟨(this.2 t ht).1, by have := (this.2 t ht).2; omega⟩⟩
/-- The state to which a letter leads, -1 for no state. -/
def nx (N : List (List Int)) (s a : Int) : Int := if s < 0 then -1 else rd (Zae N s) a
theorem nat_of {i : Int} {n : Nat} (h0 : 0 ≤ i) (h1 : i < n) : ∃ k : Nat, i = k ∧ k < n := ⟨i.toNat, by omega, by omega⟩
theorem row_at {L : Int} {N : List (List Int)} (hN : Zcu L N) {s : Int} (h0 : 0 ≤ s) (h1 : s < N.length) : ((Zae N s).length : Int) = L ∧ ∀ t ∈ Zae N s, -1 ≤ t ∧ t < N.length := by
  obtain ⟨k, rfl, hk⟩ := nat_of h0 h1
  have hg : Zae N (k : Int) = N[k] := rdOf_lt (d := []) hk
  rw [hg]
  exact hN _ (List.getElem_mem hk)
theorem rd_mem {l : List Int} {i : Int} (h0 : 0 ≤ i) (h1 : i < l.length) : rd l i ∈ l := by
  obtain ⟨k, rfl, hk⟩ := nat_of h0 h1
  rw [rd_lt hk]
  exact List.getElem_mem hk
theorem nx_in {L : Int} {N : List (List Int)} (hN : Zcu L N) {s a : Int} (h1 : s < N.length) (ha : 0 ≤ a) (hb : a < L) : -1 ≤ nx N s a ∧ nx N s a < N.length := by
  unfold nx
  by_cases h : s < 0
  · rw [if_pos h]; omega
  · rw [if_neg h]
    have hr := row_at hN (s := s) (by omega) h1
    exact hr.2 _ (rd_mem ha (by omega))
def hasB (F s : Int) : Bool := (Go.bits .and .i64 (shr .i64 F s) 1) == 1
theorem has_eq {F s : Int} (h : 0 ≤ s) : Zde.f F s = some (hasB F s) := by unfold Zde.f; rw [if_pos h]; rfl
theorem bit_eq {F s : Int} (h : 0 ≤ s) (h1 : s < 18446744073709551616) : Zbc.f F s = some (hasB F s) := by
  unfold Zbc.f; rw [u64w h h1, if_pos h]; rfl
/-- The final states of an automaton, as a list. -/
def finL (F : Int) (n : Nat) : List Bool := (List.range n).map fun (s : Nat) => hasB F s
theorem machineOf_ev (L S F : Int) (N : List (List Int)) (hn : N.length ≤ 1048576) : Ev (fun k => Zbe.f k L S F N) (L, S, finL F N.length, N) := by
  have key := Ev.up (fun k (s : List Bool) i => Zbe.l0 k (N.length : Int) i L S F N L S s N) N.length (fun _ _ => (L, S, finL F N.length, N)) (fun i s => s = finL F i)
    (fun s hs => by
      refine Ev.round ?_
      simp only [Zbe.l0]
      refine Ev.no (by omega) ?_
      rw [hs]
      exact Ev.now _)
    (fun i s hi hs ih => by
      refine Ev.round ?_
      simp only [Zbe.l0]
      refine Ev.yes (by omega) (Ev.here (has_eq (by omega)) ?_)
      have hl : s.length = i := by rw [hs]; simp [finL]
      refine Ev.yes (by omega) ?_
      rw [w64s (by omega)]
      refine ih _ ?_
      rw [hs]
      simp [finL, List.range_succ])
  have := key 0 [] (by omega) (by simp [finL])
  unfold Zbe.f
  simpa using this
theorem step_eq {L : Int} {N : List (List Int)} (hN : Zcu L N) (S : Int) (fin : List Bool) {s a : Int} (h1 : s < N.length) (ha : 0 ≤ a) (hb : a < L) : Zc1.f L S fin N s a = some (nx N s a) := by
  unfold Zc1.f nx
  by_cases h : s < 0
  · rw [if_pos h, if_pos h]
  · have hr := row_at hN (s := s) (by omega) h1
    rw [if_neg h, if_neg h, if_pos (by omega), if_pos h1, if_pos ha, if_pos (by omega)]
theorem finL_at {F : Int} {n : Nat} {s : Int} (h0 : 0 ≤ s) (h1 : s < n) : rdOf false (finL F n) s = hasB F s := by
  obtain ⟨k, rfl, hk⟩ := nat_of h0 h1
  rw [rdOf_lt (by simp [finL]; exact hk)]
  simp [finL]
end Go.Proofs.YtgindgodfcfgkaaDoor.U
end M5
section M6
namespace Go.Proofs.YtgindgodfcfgkaaDoor.U
open Go.RowKit Go.Proofs.YtgindgodfcfgkaaDoorW.PrintWords Go.Proofs.YtgindgodfcfgkaaDoorW.PrintLast Go.Proofs.YtgindgodfcfgkaaDoorW.PrintMore
open Kd
set_option linter.unusedVariables false
theorem i64_id (n : Int) (h0 : 0 ≤ n) (h1 : n < 2 ^ 63) : IntKind.i64.wrap n = n := by rw [IntKind.wrap_i64]; omega
theorem bor {a b : Nat} (ha : a < 2 ^ 63) (hb : b < 2 ^ 63) : bits .or .i64 (a : Int) (b : Int) = ((a ||| b : Nat) : Int) := (bits_nat .i64 63 (by decide) i64_id a b ha hb).2
theorem band {a b : Nat} (ha : a < 2 ^ 63) (hb : b < 2 ^ 63) : bits .and .i64 (a : Int) (b : Int) = ((a &&& b : Nat) : Int) := (bits_nat .i64 63 (by decide) i64_id a b ha hb).1
theorem shl1 {i : Nat} (hi : i < 63) : shl .i64 1 (i : Int) = ((2 ^ i : Nat) : Int) := by
  unfold shl
  rw [Int.toNat_natCast]
  have : min i IntKind.i64.bits = i := Nat.min_eq_left (by show i ≤ 64; omega)
  rw [this, Int.one_mul]
  have h := Nat.pow_lt_pow_right (a := 2) (by decide) hi
  rw [show ((2 : Int) ^ i) = ((2 ^ i : Nat) : Int) from by simp]
  exact i64_id _ (Int.natCast_nonneg _) (by exact_mod_cast h)
/-- The members k < n with p k, joined to s. -/
def orN (p : Nat → Bool) : Nat → Nat → Nat
  | 0, s => s
  | n + 1, s => if p n then orN p n s ||| 2 ^ n else orN p n s
theorem orN_yes {p : Nat → Bool} {n s : Nat} (h : p n = true) : orN p (n + 1) s = orN p n s ||| 2 ^ n := if_pos h
theorem orN_no {p : Nat → Bool} {n s : Nat} (h : p n = false) : orN p (n + 1) s = orN p n s := if_neg (by rw [h]; simp)
theorem testBit_orN (p : Nat → Bool) (n s j : Nat) : (orN p n s).testBit j = (s.testBit j || (decide (j < n) && p j)) := by
  induction n with
  | zero => simp [orN]
  | succ n ih =>
    unfold orN
    by_cases h : p n
    · rw [if_pos h, Nat.testBit_or, ih, Nat.testBit_two_pow]
      by_cases e : n = j
      · subst e; simp [h]
      · have e2 : decide (j < n + 1) = decide (j < n) := by rw [decide_eq_decide]; omega
        rw [e2]; simp [e]
    · rw [if_neg h, ih]
      by_cases e : n = j
      · subst e; simp [h]
      · have e2 : decide (j < n + 1) = decide (j < n) := by rw [decide_eq_decide]; omega
        rw [e2]
theorem orN_lt (p : Nat → Bool) (n s m : Nat) (hn : n ≤ m) (hs : s < 2 ^ m) : orN p n s < 2 ^ m := by
  induction n with
  | zero => exact hs
  | succ n ih =>
    unfold orN
    split
    · exact Nat.or_lt_two_pow (ih (by omega)) (Nat.pow_lt_pow_right (by decide) (by omega))
    · exact ih (by omega)
theorem orN_congr {p q : Nat → Bool} {n s : Nat} (h : ∀ j, j < n → p j = q j) : orN p n s = orN q n s := by
  induction n with
  | zero => rfl
  | succ n ih =>
    unfold orN
    rw [h n (by omega), ih (fun j hj => h j (by omega))]
theorem hasN {m s : Nat} (hm : m < 2 ^ 63) (hs : s ≤ 64) : ((bits .and .i64 (shr .i64 (m : Int) (s : Int)) 1) == 1) = m.testBit s := by
  have hsh : shr .i64 (m : Int) (s : Int) = ((m / 2 ^ s : Nat) : Int) := by
    unfold shr
    rw [Int.toNat_natCast, Nat.min_eq_left (show s ≤ IntKind.i64.bits from hs)]
    rw [show ((2 : Int) ^ s) = ((2 ^ s : Nat) : Int) from by simp]
    exact (Int.natCast_ediv _ _).symm
  have hq : m / 2 ^ s < 2 ^ 63 := Nat.lt_of_le_of_lt (Nat.div_le_self _ _) hm
  rw [hsh, show (1 : Int) = ((1 : Nat) : Int) from rfl, band hq (by decide), Nat.and_one_is_mod, Nat.testBit_eq_decide_div_mod_eq]
  generalize m / 2 ^ s % 2 = r
  by_cases h : r = 1
  · subst h; rfl
  · rw [decide_eq_false h]
    simp; omega
end Go.Proofs.YtgindgodfcfgkaaDoor.U
end M6
