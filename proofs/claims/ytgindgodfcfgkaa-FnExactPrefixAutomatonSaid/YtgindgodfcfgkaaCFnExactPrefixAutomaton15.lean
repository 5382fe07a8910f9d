import Derived.Test.YtgindgodfcfgkaaCFnExactPrefixAutomaton14
section M0
namespace Go.Proofs.Ytgindgodfcfgkaa.P
open Go.RowKit Go.Proofs.Ytgindgodfcfgkaa.Sh Go.Proofs.YtgindgodfcfgkaaW.PrintWords Go.Proofs.YtgindgodfcfgkaaW.PrintLast Go.Proofs.YtgindgodfcfgkaaW.PrintMore
open Kd
attribute [local go_sem] Zce Zcc Zcn Zcm Zb2 Zb0 Zcd Zcb   -- for this text's walks alone
set_option linter.unusedVariables false
set_option linter.unusedSimpArgs false
mutual
def Zar.j0 : Nat → Int → Int → Bool → Int → Int → Int → List (List Int) → Int → Int → Int → List (List Int) → Int → Int → Int → List (List Int) → Int → Int → Int → List (List Int) → Option (Bool)
 | 0, _, _, _, _, _, _, _, _, _, _, _, _, _, _, _, _, _, _, _ => none
 | k + 1, x5, x8, w, a, b, c, d, e, g, h, i, p, q, r, s, j, l, m, n => if w = true then (some false) else ((Zbq.f k a b c d).bind fun o => ((Zbg.f k p q r s o.1 o.2.1 o.2.2.1 o.2.2.2).bind fun u => (if u = true then ((Zb8.f k p q r s 1).bind fun t => (if t.1 < 0 then (Zar.j1 k x5 true a b c d e g h i j l m n) else ((Zbg.f k j l m n e g h i).bind fun v => (if v = true then (Zar.j1 k x5 (x8 != x5) a b c d e g h i j l m n) else (Zar.j1 k x5 true a b c d e g h i j l m n))))) else (some false))))
def Zar.j1 : Nat → Int → Bool → Int → Int → Int → List (List Int) → Int → Int → Int → List (List Int) → Int → Int → Int → List (List Int) → Option (Bool)
 | 0, _, _, _, _, _, _, _, _, _, _, _, _, _, _ => none
 | k + 1, x5, t, h, i, j, l, m, n, o, p, a, b, c, q => if t = true then (some false) else ((Zb8.f k a b c q 1).bind fun d => ((Zb4.f k a b c d.2 1).bind fun r => (if r < 0 then (some false) else (if r = d.1 then ((Zbq.f k h i j l).bind fun g => ((Zbw.f k g.1 g.2.1 g.2.2.1 g.2.2.2).bind fun e => ((Zbg.f k e.1 e.2.1 e.2.2.1 e.2.2.2.1 m n o p).bind fun s => (if s = true then (Zar.j2 k d.1 (e.2.2.2.2 != x5) a b c d.2) else (Zar.j2 k d.1 true a b c d.2))))) else (some false)))))
def Zar.j2 : Nat → Int → Bool → Int → Int → Int → List (List Int) → Option (Bool)
 | 0, _, _, _, _, _, _ => none
 | k + 1, g, h, a, b, c, d => if h = true then (some false) else ((Zb4.f k a b c d 1).bind fun e => (if e < 0 then (some false) else (if e = g then (some true) else (some false))))
end
def Zar.f (k : Nat) (e : Int) (g : Int) (h : Int) (i : List (List Int)) : Option (Bool) := (Zci.f k e g h i 1048576).bind fun j => (if j < 0 then (some true) else ((Zbq.f k e g h i).bind fun d => ((Zca.f k d.1 d.2.1 d.2.2.1 d.2.2.2).bind fun a => ((Zbq.f k e g h i).bind fun c => ((Zbw.f k c.1 c.2.1 c.2.2.1 c.2.2.2).bind fun b => ((Zbg.f k b.1 b.2.1 b.2.2.1 b.2.2.2.1 a.1 a.2.1 a.2.2.1 a.2.2.2.1).bind fun l => (if l = true then (Zar.j0 k a.2.2.2.2 b.2.2.2.2 (b.2.2.2.2 != a.2.2.2.2) e g h i a.1 a.2.1 a.2.2.1 a.2.2.2.1 c.1 c.2.1 c.2.2.1 c.2.2.2 b.1 b.2.1 b.2.2.1 b.2.2.2.1) else (Zar.j0 k a.2.2.2.2 b.2.2.2.2 true e g h i a.1 a.2.1 a.2.2.1 a.2.2.2.1 c.1 c.2.1 c.2.2.1 c.2.2.2 b.1 b.2.1 b.2.2.1 b.2.2.2.1))))))))
set_option maxHeartbeats 8000000 in
set_option maxRecDepth 100000 in
theorem Zar.calls (k : Nat) (am : Int) (an : Int) (ao : Int) (aH : Option Addr) (aI : Nat) (ae : List (List Int)) (r : Bool) (w : World) (cA : Kd.C (Kd.slice 2 (Kd.int .i64)) w aH ae.length ae) (cB : ae.length ≤ aI) (h : Zar.f k am an ao ae = some r) (hT_ : r = true) :
  Calls Try.prog 4 #[.agg #[.int .i64 am, .int .i64 an, .int .i64 ao, .slice aH ae.length aI]] w fun e w' => e = .returned (.bool r) ∧ Below w.heap.size w w' := by
 have HTr_ := mA hT_
 clear hT_
 have iB := Try.underlying24
 have iC := Try.underlying26
 have a8 := mA cA
 have a9 := mA cB
 clear cA cB
 have HB := mA (Below.refl w.heap.size w)
 unfold Zar.f at h
 have H := h
 clear h
 replace H := bE H
 obtain ⟨bN, ee, H⟩ := H
 have A2 := mA ee
 clear ee
 by_cases c3 : bN < 0
 ·rw [if_pos c3] at H
  have dX := dT c3
  clear c3
  obtain rfl := oI H
  go_enter Try.func4, Try.ntmps4
  go_wp2_with (first | ((with_reducible refine Zaq (N := 1) rfl ?_); refine boxS (N := 1) (cs := #[.int .i64 am, .int .i64 an, .int .i64 ao, .slice aH ae.length aI]) (t := 24) ?_; intro aE hg w4 hbox hb; have d := mA (hbox); have eb := geW (w := w) hg; have bH := geW (w := w) hg; replace HB := mA (Zaf (bW) hb); clear hb hbox hg; obtain ⟨gc, gf, gg, gh⟩ := Zay d.out; obtain ⟨gi, gj, gk, gl⟩ := frz4 d.out) | ((with_reducible refine Zat (f := 9) rfl ?_); refine Zbd (some 16) Try.func9 #[.agg #[.int .i64 am, .int .i64 an, .int .i64 ao, .slice aH ae.length aI], .int .i64 1048576] ?_; (with_reducible refine (Zci.calls k am an ao _ _ ae 1048576 bN _ ?side1 ?side2 A2.out).mono ?_); (case side1 => exact cP (zP a8.out HB.out)); (case side2 => exact a9.out); rintro e w6 ⟨rfl, hb⟩; refine ⟨_, rfl, ?_⟩; replace d := mA (blkB d.out hb); replace HB := mA (Zaf (bW) hb); (try clear hb); (try clear hb2); (try clear hk); (try clear hi)))
  go_ret
  exact ⟨eW, bW⟩
 rw [if_neg c3] at H
 have dX := dF c3
 clear c3
 replace H := bE H
 obtain ⟨⟨bO, bQ, bR, a1⟩, A70, H⟩ := H
 try dsimp only at H
 have A7 := mA A70
 clear A70
 replace H := bE H
 obtain ⟨⟨X, aa, ac, z, bs⟩, A80, H⟩ := H
 try dsimp only at H
 have A8 := mA A80
 clear A80
 replace H := bE H
 obtain ⟨⟨ap, au, aw, U⟩, cC, H⟩ := H
 try dsimp only at H
 have A9 := mA cC
 clear cC
 replace H := bE H
 obtain ⟨⟨J, O, P, y, bI⟩, A100, H⟩ := H
 try dsimp only at H
 have gm := mA A100
 clear A100
 have bS := mA H
 clear H
 go_enter Try.func4, Try.ntmps4
 go_upto_region 8 with (first | ((with_reducible refine Zaq (N := 1) rfl ?_); refine boxS (N := 1) (cs := #[.int .i64 am, .int .i64 an, .int .i64 ao, .slice aH ae.length aI]) (t := 24) ?_; intro aE hg iT hbox hb; have d := mA (hbox); have eb := geW (w := w) hg; have bH := geW (w := w) hg; replace HB := mA (Zaf (bW) hb); clear hb hbox hg; obtain ⟨cR, cS, cT, cU⟩ := Zay d.out; obtain ⟨cV, cW, cX, cY⟩ := frz4 d.out) | ((with_reducible refine Zat (f := 9) rfl ?_); refine Zbd (some 16) Try.func9 #[.agg #[.int .i64 am, .int .i64 an, .int .i64 ao, .slice aH ae.length aI], .int .i64 1048576] ?_; (with_reducible refine (Zci.calls k am an ao _ _ ae 1048576 bN _ ?side1 ?side2 A2.out).mono ?_); (case side1 => exact cP (zP a8.out HB.out)); (case side2 => exact a9.out); rintro e iU ⟨rfl, hb⟩; refine ⟨_, rfl, ?_⟩; replace d := mA (blkB d.out hb); replace HB := mA (Zaf (bW) hb); (try clear hb); (try clear hb2); (try clear hk); (try clear hi); obtain ⟨cZ, c0, c1, da⟩ := Zay d.out; obtain ⟨db, dc, dd, de⟩ := frz4 d.out) | ((with_reducible refine Zat (f := 11) rfl ?_); refine Zbd (some 21) Try.func11 #[.agg #[.int .i64 am, .int .i64 an, .int .i64 ao, .slice aH ae.length aI]] ?_; (with_reducible refine (Zbq.calls k am an ao _ _ ae bO bQ bR a1 _ ?side1 ?side2 A7.out).mono ?_); (case side1 => exact cP (zP a8.out HB.out)); (case side2 => exact a9.out); rintro e iV ⟨iD, rfl, av, hb⟩; refine ⟨_, rfl, ?_⟩; obtain ⟨ho, dY⟩ := sizeI hb; have ar := mA (yM (Kd.S_newI av dY) (Zap (bW))); replace d := mA (blkB d.out hb); replace HB := mA (Zaf (bW) hb); (try clear hb); (try clear hb2); (try clear hk); (try clear hi); (try clear av); obtain ⟨bu, bv, ej⟩ := yD ar.out; subst ej) | ((with_reducible refine Zat (f := 16) rfl ?_); refine Zbd (some 22) Try.func16 #[.agg #[.int .i64 bO, .int .i64 bQ, .int .i64 bR, .slice bu a1.length bv]] ?_; (with_reducible refine (Zca.calls k bO bQ bR _ _ a1 X aa ac z bs _ ?side1 ?side2 A8.out).mono ?_); (case side1 => exact cP ((zU ar.out).2.2)); (case side2 => exact (zU ar.out).2.1); rintro e iW ⟨iE, rfl, av, hb⟩; refine ⟨_, rfl, ?_⟩; obtain ⟨aX, bL⟩ := sizeI hb; have ah := mA (yM (yN (Kd.S_newI av bL) (yK (sP ar.out))) (Zap (bW))); replace ar := mA (Kd.S_elderI (sP ar.out) (yL av) hb bL); replace d := mA (blkB d.out hb); replace HB := mA (Zaf (bW) hb); (try clear hb); (try clear hb2); (try clear hk); (try clear hi); (try clear av)) | ((with_reducible refine Zaq (N := 4) rfl ?_); refine boxS (N := 4) (cs := #[.int .i64 0, .int .i64 0, .int .i64 0, .slice none 0 0]) (t := 26) ?_; intro x hg iX hbox hb; replace ar := mA (zR (sP ar.out) hb); replace ah := mA (zR (sP ah.out) hb); have a := mA (hbox); have hp := geW (w := w) hg; have cD := geW (w := w) hg; replace HB := mA (Zaf (bW) hb); have aj := mA (neB hg d); have aJ := mA (neC hg d); replace d := mA (blkB d.out hb); clear hb hbox hg; have hq := aJ.out; have hr := aj.out; obtain ⟨df, dg, dh, di⟩ := Zay a.out; obtain ⟨dj, dk, dl, dm⟩ := frz4 a.out; obtain ⟨L, G, ek⟩ := yD ah.out; subst ek; obtain ⟨dn, dp, dq, dr⟩ := Zay d.out; obtain ⟨dt, du, dv, dw⟩ := frz4 d.out) | ((with_reducible refine Zat (f := 11) rfl ?_); refine Zbd (some 26) Try.func11 #[.agg #[.int .i64 am, .int .i64 an, .int .i64 ao, .slice aH ae.length aI]] ?_; (with_reducible refine (Zbq.calls k am an ao _ _ ae ap au aw U _ ?side1 ?side2 A9.out).mono ?_); (case side1 => exact zP a8.out (bW)); (case side2 => exact a9.out); rintro e iY ⟨iG, rfl, av, hb⟩; refine ⟨_, rfl, ?_⟩; obtain ⟨aF, bz⟩ := sizeI hb; have aG := mA (yM (yN (yN (Kd.S_newI av bz) (yK (by (with_reducible repeat (first | apply zH | apply zI | apply zF)); exact (zG (zA (p := ⟨x, 3, none⟩) (zA (p := ⟨x, 2, none⟩) (zA (p := ⟨x, 1, none⟩) (zA (p := ⟨x, 0, none⟩) (zM ar.out a.out (by decide)) (fun _ hk => hk.2) (.int .i64 X)) (fun _ hk => hk.2) (.int .i64 aa)) (fun _ hk => hk.2) (.int .i64 ac)) (fun _ hk => hk.2) (.slice L z.length G)) (fun _ h_ => h_.1))))) (yK (by (with_reducible repeat (first | apply zH | apply zI | apply zF)); exact (zG (zA (p := ⟨x, 3, none⟩) (zA (p := ⟨x, 2, none⟩) (zA (p := ⟨x, 1, none⟩) (zA (p := ⟨x, 0, none⟩) (zM ah.out a.out (by decide)) (fun _ hk => hk.2) (.int .i64 X)) (fun _ hk => hk.2) (.int .i64 aa)) (fun _ hk => hk.2) (.int .i64 ac)) (fun _ hk => hk.2) (.slice L z.length G)) (fun _ h_ => h_.1))))) (Zap (bW))); replace ar := mA (Kd.S_elderI (by (with_reducible repeat (first | apply zH | apply zI | apply zF)); exact (zG (zA (p := ⟨x, 3, none⟩) (zA (p := ⟨x, 2, none⟩) (zA (p := ⟨x, 1, none⟩) (zA (p := ⟨x, 0, none⟩) (zM ar.out a.out (by decide)) (fun _ hk => hk.2) (.int .i64 X)) (fun _ hk => hk.2) (.int .i64 aa)) (fun _ hk => hk.2) (.int .i64 ac)) (fun _ hk => hk.2) (.slice L z.length G)) (fun _ h_ => h_.1))) (yL av) hb bz); replace ah := mA (Kd.S_elderI (by (with_reducible repeat (first | apply zH | apply zI | apply zF)); exact (zG (zA (p := ⟨x, 3, none⟩) (zA (p := ⟨x, 2, none⟩) (zA (p := ⟨x, 1, none⟩) (zA (p := ⟨x, 0, none⟩) (zM ah.out a.out (by decide)) (fun _ hk => hk.2) (.int .i64 X)) (fun _ hk => hk.2) (.int .i64 aa)) (fun _ hk => hk.2) (.int .i64 ac)) (fun _ hk => hk.2) (.slice L z.length G)) (fun _ h_ => h_.1))) (yL av) hb bz); replace d := mA (Za1 (g := aE) (o := .cells #[.int .i64 am, .int .i64 an, .int .i64 ao, .slice aH ae.length aI] 24 (0, 0)) (by (with_reducible repeat (first | refine Zac ?_ _ | refine Zab ?_ | refine Zaa ?_ _)); refine Zak ?_ aj.out _; (with_reducible repeat (first | refine Zac ?_ _ | refine Zab ?_ | refine Zaa ?_ _)); refine Zak ?_ aj.out _; (with_reducible repeat (first | refine Zac ?_ _ | refine Zab ?_ | refine Zaa ?_ _)); refine Zak ?_ aj.out _; (with_reducible repeat (first | refine Zac ?_ _ | refine Zab ?_ | refine Zaa ?_ _)); refine Zak ?_ aj.out _; exact bP d.out) hb); replace a := mA (Za1 (g := x) (o := .cells #[.int .i64 X, .int .i64 aa, .int .i64 ac, .slice L z.length G] 26 (0, 0)) (by (with_reducible repeat (first | refine Zac ?_ _ | refine Zab ?_ | refine Zaa ?_ _)); refine Zan (cs := #[.int .i64 X, .int .i64 aa, .int .i64 ac, .slice none 0 0]) ?_ 3 _ rfl; (with_reducible repeat (first | refine Zac ?_ _ | refine Zab ?_ | refine Zaa ?_ _)); refine Zan (cs := #[.int .i64 X, .int .i64 aa, .int .i64 0, .slice none 0 0]) ?_ 2 _ rfl; (with_reducible repeat (first | refine Zac ?_ _ | refine Zab ?_ | refine Zaa ?_ _)); refine Zan (cs := #[.int .i64 X, .int .i64 0, .int .i64 0, .slice none 0 0]) ?_ 1 _ rfl; (with_reducible repeat (first | refine Zac ?_ _ | refine Zab ?_ | refine Zaa ?_ _)); refine Zan (cs := #[.int .i64 0, .int .i64 0, .int .i64 0, .slice none 0 0]) ?_ 0 _ rfl; exact bP a.out) hb); replace HB := mA (Zaf (bW) hb); (try clear hb); (try clear hb2); (try clear hk); (try clear hi); (try clear av)) | ((with_reducible refine Zaq (N := 6) rfl ?_); refine boxS (N := 6) (cs := #[.int .i64 0, .int .i64 0, .int .i64 0, .slice none 0 0]) (t := 26) ?_; intro A hg iZ hbox hb; replace ar := mA (zR (sP ar.out) hb); replace ah := mA (zR (sP ah.out) hb); replace aG := mA (zR (sP aG.out) hb); have m := mA (hbox); have hs := geW (w := w) hg; have cE := geW (w := w) hg; replace HB := mA (Zaf (bW) hb); have aM := mA (neB hg d); have a2 := mA (neC hg d); replace d := mA (blkB d.out hb); have ak := mA (neB hg a); have aK := mA (neC hg a); replace a := mA (blkB a.out hb); clear hb hbox hg; have ht := a2.out; have hu := aM.out; have hv := aK.out; have hw := ak.out; obtain ⟨dx, dy, dz, dA⟩ := Zay m.out; obtain ⟨dB, dC, dD, dE⟩ := frz4 m.out; obtain ⟨M, I, el⟩ := yD aG.out; subst el) | ((with_reducible refine Zat (f := 17) rfl ?_); refine Zbd (some 29) Try.func17 #[.agg #[.int .i64 ap, .int .i64 au, .int .i64 aw, .slice M U.length I]] ?_; (with_reducible refine (Zbw.calls k ap au aw _ _ U J O P y bI _ ?side1 ?side2 gm.out).mono ?_); (case side1 => refine (zU (e := 33) (base := w.heap.size) (ok := fun k_ => (((True ∧ aF ≤ k_) ∧ some k_ ≠ (.slice bu a1.length bv : Value).ownBlock) ∧ some k_ ≠ (.slice L z.length G : Value).ownBlock)) (n := U.length) (c := I) ?_).2.2; exact (by (with_reducible repeat (first | apply zH | apply zI | apply zF)); exact (zG (zA (p := ⟨A, 3, none⟩) (zA (p := ⟨A, 2, none⟩) (zA (p := ⟨A, 1, none⟩) (zA (p := ⟨A, 0, none⟩) (zM aG.out m.out (by decide)) (fun _ hk => hk.2) (.int .i64 ap)) (fun _ hk => hk.2) (.int .i64 au)) (fun _ hk => hk.2) (.int .i64 aw)) (fun _ hk => hk.2) (.slice M U.length I)) (fun _ h_ => h_.1)))); (case side2 => exact (zU aG.out).2.1); rintro e i0 ⟨iH, rfl, av, hb⟩; refine ⟨_, rfl, ?_⟩; obtain ⟨ai, bi⟩ := sizeI hb; have aP := mA (yM (yN (yN (yN (Kd.S_newI av bi) (yK (by (with_reducible repeat (first | apply zH | apply zI | apply zF)); exact (zG (zA (p := ⟨A, 3, none⟩) (zA (p := ⟨A, 2, none⟩) (zA (p := ⟨A, 1, none⟩) (zA (p := ⟨A, 0, none⟩) (zM ar.out m.out (by decide)) (fun _ hk => hk.2) (.int .i64 ap)) (fun _ hk => hk.2) (.int .i64 au)) (fun _ hk => hk.2) (.int .i64 aw)) (fun _ hk => hk.2) (.slice M U.length I)) (fun _ h_ => h_.1))))) (yK (by (with_reducible repeat (first | apply zH | apply zI | apply zF)); exact (zG (zA (p := ⟨A, 3, none⟩) (zA (p := ⟨A, 2, none⟩) (zA (p := ⟨A, 1, none⟩) (zA (p := ⟨A, 0, none⟩) (zM ah.out m.out (by decide)) (fun _ hk => hk.2) (.int .i64 ap)) (fun _ hk => hk.2) (.int .i64 au)) (fun _ hk => hk.2) (.int .i64 aw)) (fun _ hk => hk.2) (.slice M U.length I)) (fun _ h_ => h_.1))))) (yK (by (with_reducible repeat (first | apply zH | apply zI | apply zF)); exact (zG (zA (p := ⟨A, 3, none⟩) (zA (p := ⟨A, 2, none⟩) (zA (p := ⟨A, 1, none⟩) (zA (p := ⟨A, 0, none⟩) (zM aG.out m.out (by decide)) (fun _ hk => hk.2) (.int .i64 ap)) (fun _ hk => hk.2) (.int .i64 au)) (fun _ hk => hk.2) (.int .i64 aw)) (fun _ hk => hk.2) (.slice M U.length I)) (fun _ h_ => h_.1))))) (Zap (bW))); replace ar := mA (Kd.S_elderI (by (with_reducible repeat (first | apply zH | apply zI | apply zF)); exact (zG (zA (p := ⟨A, 3, none⟩) (zA (p := ⟨A, 2, none⟩) (zA (p := ⟨A, 1, none⟩) (zA (p := ⟨A, 0, none⟩) (zM ar.out m.out (by decide)) (fun _ hk => hk.2) (.int .i64 ap)) (fun _ hk => hk.2) (.int .i64 au)) (fun _ hk => hk.2) (.int .i64 aw)) (fun _ hk => hk.2) (.slice M U.length I)) (fun _ h_ => h_.1))) (yL av) hb bi); replace ah := mA (Kd.S_elderI (by (with_reducible repeat (first | apply zH | apply zI | apply zF)); exact (zG (zA (p := ⟨A, 3, none⟩) (zA (p := ⟨A, 2, none⟩) (zA (p := ⟨A, 1, none⟩) (zA (p := ⟨A, 0, none⟩) (zM ah.out m.out (by decide)) (fun _ hk => hk.2) (.int .i64 ap)) (fun _ hk => hk.2) (.int .i64 au)) (fun _ hk => hk.2) (.int .i64 aw)) (fun _ hk => hk.2) (.slice M U.length I)) (fun _ h_ => h_.1))) (yL av) hb bi); replace aG := mA (Kd.S_elderI (by (with_reducible repeat (first | apply zH | apply zI | apply zF)); exact (zG (zA (p := ⟨A, 3, none⟩) (zA (p := ⟨A, 2, none⟩) (zA (p := ⟨A, 1, none⟩) (zA (p := ⟨A, 0, none⟩) (zM aG.out m.out (by decide)) (fun _ hk => hk.2) (.int .i64 ap)) (fun _ hk => hk.2) (.int .i64 au)) (fun _ hk => hk.2) (.int .i64 aw)) (fun _ hk => hk.2) (.slice M U.length I)) (fun _ h_ => h_.1))) (yL av) hb bi); replace d := mA (Za1 (g := aE) (o := .cells #[.int .i64 am, .int .i64 an, .int .i64 ao, .slice aH ae.length aI] 24 (0, 0)) (by (with_reducible repeat (first | refine Zac ?_ _ | refine Zab ?_ | refine Zaa ?_ _)); refine Zak ?_ aM.out _; (with_reducible repeat (first | refine Zac ?_ _ | refine Zab ?_ | refine Zaa ?_ _)); refine Zak ?_ aM.out _; (with_reducible repeat (first | refine Zac ?_ _ | refine Zab ?_ | refine Zaa ?_ _)); refine Zak ?_ aM.out _; (with_reducible repeat (first | refine Zac ?_ _ | refine Zab ?_ | refine Zaa ?_ _)); refine Zak ?_ aM.out _; exact bP d.out) hb); replace a := mA (Za1 (g := x) (o := .cells #[.int .i64 X, .int .i64 aa, .int .i64 ac, .slice L z.length G] 26 (0, 0)) (by (with_reducible repeat (first | refine Zac ?_ _ | refine Zab ?_ | refine Zaa ?_ _)); refine Zak ?_ ak.out _; (with_reducible repeat (first | refine Zac ?_ _ | refine Zab ?_ | refine Zaa ?_ _)); refine Zak ?_ ak.out _; (with_reducible repeat (first | refine Zac ?_ _ | refine Zab ?_ | refine Zaa ?_ _)); refine Zak ?_ ak.out _; (with_reducible repeat (first | refine Zac ?_ _ | refine Zab ?_ | refine Zaa ?_ _)); refine Zak ?_ ak.out _; exact bP a.out) hb); replace m := mA (Za1 (g := A) (o := .cells #[.int .i64 ap, .int .i64 au, .int .i64 aw, .slice M U.length I] 26 (0, 0)) (by (with_reducible repeat (first | refine Zac ?_ _ | refine Zab ?_ | refine Zaa ?_ _)); refine Zan (cs := #[.int .i64 ap, .int .i64 au, .int .i64 aw, .slice none 0 0]) ?_ 3 _ rfl; (with_reducible repeat (first | refine Zac ?_ _ | refine Zab ?_ | refine Zaa ?_ _)); refine Zan (cs := #[.int .i64 ap, .int .i64 au, .int .i64 0, .slice none 0 0]) ?_ 2 _ rfl; (with_reducible repeat (first | refine Zac ?_ _ | refine Zab ?_ | refine Zaa ?_ _)); refine Zan (cs := #[.int .i64 ap, .int .i64 0, .int .i64 0, .slice none 0 0]) ?_ 1 _ rfl; (with_reducible repeat (first | refine Zac ?_ _ | refine Zab ?_ | refine Zaa ?_ _)); refine Zan (cs := #[.int .i64 0, .int .i64 0, .int .i64 0, .slice none 0 0]) ?_ 0 _ rfl; exact bP m.out) hb); replace HB := mA (Zaf (bW) hb); (try clear hb); (try clear hb2); (try clear hk); (try clear hi); (try clear av)) | ((with_reducible refine Zaq (N := 7) rfl ?_); refine boxS (N := 7) (cs := #[.int .i64 0, .int .i64 0, .int .i64 0, .slice none 0 0]) (t := 26) ?_; intro q hg aV hbox hb; replace ar := mA (zR (sP ar.out) hb); replace ah := mA (zR (sP ah.out) hb); replace aG := mA (zR (sP aG.out) hb); replace aP := mA (zR (sP aP.out) hb); have b := mA (hbox); have hx := geW (w := w) hg; have cF := geW (w := w) hg; replace HB := mA (Zaf (bW) hb); have Y := mA (neB hg d); have aN := mA (neC hg d); replace d := mA (blkB d.out hb); have T := mA (neB hg a); have aC := mA (neC hg a); replace a := mA (blkB a.out hb); have W := mA (neB hg m); have aL := mA (neC hg m); replace m := mA (blkB m.out hb); clear hb hbox hg; have hy := aN.out; have hz := Y.out; have hA := aC.out; have hB := T.out; have hC := aL.out; have hD := W.out; obtain ⟨dG, dH, dI, dJ⟩ := Zay b.out; obtain ⟨dK, dL, dM, dN⟩ := frz4 b.out; obtain ⟨E, B, em⟩ := yD aP.out; subst em))
 (try simp only [Act.put, List.setIfInBounds_toArray, List.set_cons_zero, List.set_cons_succ])
 go_cut [40] (fun v40 wc => ∃ (kq : Nat) (bj : Bool), v40 = .bool bj ∧ Zad (Zar.j0 kq bs bI bj am an ao ae X aa ac z ap au aw U J O P y = some r) ∧ Zad (kq ≤ k) ∧ Zad (Kd.S (Kd.slice 2 (Kd.int .i64)) 33 wc w.heap.size (fun k_ => some k_ ≠ ((.slice M U.length I) : Value).ownBlock ∧ some k_ ≠ ((.slice E y.length B) : Value).ownBlock ∧ aX ≤ k_ ∧ k_ < aF ∧ k_ < ai) (.slice L z.length G) z) ∧ Zad (Kd.S (Kd.slice 2 (Kd.int .i64)) 33 wc w.heap.size (fun k_ => some k_ ≠ ((.slice L z.length G) : Value).ownBlock ∧ some k_ ≠ ((.slice E y.length B) : Value).ownBlock ∧ aF ≤ k_ ∧ k_ < ai) (.slice M U.length I) U) ∧ Zad (Kd.S (Kd.slice 2 (Kd.int .i64)) 33 wc w.heap.size (fun k_ => some k_ ≠ ((.slice L z.length G) : Value).ownBlock ∧ some k_ ≠ ((.slice M U.length I) : Value).ownBlock ∧ ai ≤ k_) (.slice E y.length B) y) ∧ Zad (wc.heap[aE]? = some (.cells #[.int .i64 am, .int .i64 an, .int .i64 ao, (.slice aH ae.length aI)] 24 (0, 0))) ∧ Zad (wc.heap[x]? = some (.cells #[.int .i64 X, .int .i64 aa, .int .i64 ac, (.slice L z.length G)] 26 (0, 0))) ∧ Zad (wc.heap[A]? = some (.cells #[.int .i64 ap, .int .i64 au, .int .i64 aw, (.slice M U.length I)] 26 (0, 0))) ∧ Zad (wc.heap[q]? = some (.cells #[.int .i64 J, .int .i64 O, .int .i64 P, (.slice E y.length B)] 26 (0, 0))) ∧ Zad (Below w.heap.size w wc))
 case first =>
  have H := bS.out
  clear bS
  replace H := bE H
  obtain ⟨en, dZ, H⟩ := H
  have ef := mA dZ
  clear dZ
  by_cases cG : en = true
  ·subst cG
   rw [if_pos rfl] at H
   have H' := mA H
   clear H
   have hE := aN.out
   have hF := Y.out
   have hG := aC.out
   have hH := T.out
   have hI := aL.out
   have hJ := W.out
   have fa : aV.cell? ⟨q, 0, none⟩ = some (.int .i64 0) := bc b 0
   have fb : aV.cell? ⟨q, 1, none⟩ = some (.int .i64 0) := bc b 1
   have fc : aV.cell? ⟨q, 2, none⟩ = some (.int .i64 0) := bc b 2
   have fd : aV.cell? ⟨q, 3, none⟩ = some (.slice none 0 0) := bc b 3
   have fe := Zae b.out 0
   have ff := Zae b.out 1
   have fg := Zae b.out 2
   have fh := Zae b.out 3
   have hL := aJ.out
   have hM := aj.out
   have hN := ak.out
   have hO := aK.out
   have fi : aV.cell? ⟨x, 0, none⟩ = some (.int .i64 X) := bc a 0
   have fj : aV.cell? ⟨x, 1, none⟩ = some (.int .i64 aa) := bc a 1
   have fk : aV.cell? ⟨x, 2, none⟩ = some (.int .i64 ac) := bc a 2
   have fl : aV.cell? ⟨x, 3, none⟩ = some (.slice L z.length G) := bc a 3
   have fm := Zae a.out 0
   have fn := Zae a.out 1
   have fo := Zae a.out 2
   have fp := Zae a.out 3
   go_wp2_with (first | ((with_reducible refine Zat (f := 13) rfl ?_); refine Zbd (some 34) Try.func13 #[.agg #[.int .i64 J, .int .i64 O, .int .i64 P, .slice E y.length B], .agg #[.int .i64 X, .int .i64 aa, .int .i64 ac, .slice L z.length G]] ?_; (with_reducible refine (Zbg.calls k J O P _ _ y X aa ac _ _ z true _ ?side1 ?side2 ?side3 ?side4 ef.out).mono ?_); (case side1 => refine (zU (e := 33) (base := w.heap.size) (ok := fun k_ => ((((True ∧ ai ≤ k_) ∧ some k_ ≠ (.slice bu a1.length bv : Value).ownBlock) ∧ some k_ ≠ (.slice L z.length G : Value).ownBlock) ∧ some k_ ≠ (.slice M U.length I : Value).ownBlock)) (n := y.length) (c := B) ?_).2.2; exact (by (with_reducible repeat (first | apply zH | apply zI | apply zF)); exact (zG (zA (p := ⟨q, 3, none⟩) (zA (p := ⟨q, 2, none⟩) (zA (p := ⟨q, 1, none⟩) (zA (p := ⟨q, 0, none⟩) (zM aP.out b.out (by decide)) (fun _ hk => hk.2) (.int .i64 J)) (fun _ hk => hk.2) (.int .i64 O)) (fun _ hk => hk.2) (.int .i64 P)) (fun _ hk => hk.2) (.slice E y.length B)) (fun _ h_ => h_.1)))); (case side2 => exact (zU aP.out).2.1); (case side3 => refine (zU (e := 33) (base := w.heap.size) (ok := fun k_ => ((((((True ∧ aX ≤ k_) ∧ some k_ ≠ (.slice bu a1.length bv : Value).ownBlock) ∧ some k_ ≠ (.slice M U.length I : Value).ownBlock) ∧ k_ < aF) ∧ some k_ ≠ (.slice E y.length B : Value).ownBlock) ∧ k_ < ai)) (n := z.length) (c := G) ?_).2.2; exact (by (with_reducible repeat (first | apply zH | apply zI | apply zF)); exact (zG (zA (p := ⟨q, 3, none⟩) (zA (p := ⟨q, 2, none⟩) (zA (p := ⟨q, 1, none⟩) (zA (p := ⟨q, 0, none⟩) (zM ah.out b.out (by decide)) (fun _ hk => hk.2) (.int .i64 J)) (fun _ hk => hk.2) (.int .i64 O)) (fun _ hk => hk.2) (.int .i64 P)) (fun _ hk => hk.2) (.slice E y.length B)) (fun _ h_ => h_.1)))); (case side4 => exact (zU ah.out).2.1); rintro e i1 ⟨rfl, hb⟩; refine ⟨_, rfl, ?_⟩; replace ar := mA (zR (by (with_reducible repeat (first | apply zH | apply zI | apply zF)); exact (zG (zA (p := ⟨q, 3, none⟩) (zA (p := ⟨q, 2, none⟩) (zA (p := ⟨q, 1, none⟩) (zA (p := ⟨q, 0, none⟩) (zM ar.out b.out (by decide)) (fun _ hk => hk.2) (.int .i64 J)) (fun _ hk => hk.2) (.int .i64 O)) (fun _ hk => hk.2) (.int .i64 P)) (fun _ hk => hk.2) (.slice E y.length B)) (fun _ h_ => h_.1))) hb); replace ah := mA (zR (by (with_reducible repeat (first | apply zH | apply zI | apply zF)); exact (zG (zA (p := ⟨q, 3, none⟩) (zA (p := ⟨q, 2, none⟩) (zA (p := ⟨q, 1, none⟩) (zA (p := ⟨q, 0, none⟩) (zM ah.out b.out (by decide)) (fun _ hk => hk.2) (.int .i64 J)) (fun _ hk => hk.2) (.int .i64 O)) (fun _ hk => hk.2) (.int .i64 P)) (fun _ hk => hk.2) (.slice E y.length B)) (fun _ h_ => h_.1))) hb); replace aG := mA (zR (by (with_reducible repeat (first | apply zH | apply zI | apply zF)); exact (zG (zA (p := ⟨q, 3, none⟩) (zA (p := ⟨q, 2, none⟩) (zA (p := ⟨q, 1, none⟩) (zA (p := ⟨q, 0, none⟩) (zM aG.out b.out (by decide)) (fun _ hk => hk.2) (.int .i64 J)) (fun _ hk => hk.2) (.int .i64 O)) (fun _ hk => hk.2) (.int .i64 P)) (fun _ hk => hk.2) (.slice E y.length B)) (fun _ h_ => h_.1))) hb); replace aP := mA (zR (by (with_reducible repeat (first | apply zH | apply zI | apply zF)); exact (zG (zA (p := ⟨q, 3, none⟩) (zA (p := ⟨q, 2, none⟩) (zA (p := ⟨q, 1, none⟩) (zA (p := ⟨q, 0, none⟩) (zM aP.out b.out (by decide)) (fun _ hk => hk.2) (.int .i64 J)) (fun _ hk => hk.2) (.int .i64 O)) (fun _ hk => hk.2) (.int .i64 P)) (fun _ hk => hk.2) (.slice E y.length B)) (fun _ h_ => h_.1))) hb); replace d := mA (Za1 (g := aE) (o := .cells #[.int .i64 am, .int .i64 an, .int .i64 ao, .slice aH ae.length aI] 24 (0, 0)) (by (with_reducible repeat (first | refine Zac ?_ _ | refine Zab ?_ | refine Zaa ?_ _)); refine Zak ?_ Y.out _; (with_reducible repeat (first | refine Zac ?_ _ | refine Zab ?_ | refine Zaa ?_ _)); refine Zak ?_ Y.out _; (with_reducible repeat (first | refine Zac ?_ _ | refine Zab ?_ | refine Zaa ?_ _)); refine Zak ?_ Y.out _; (with_reducible repeat (first | refine Zac ?_ _ | refine Zab ?_ | refine Zaa ?_ _)); refine Zak ?_ Y.out _; exact bP d.out) hb); replace a := mA (Za1 (g := x) (o := .cells #[.int .i64 X, .int .i64 aa, .int .i64 ac, .slice L z.length G] 26 (0, 0)) (by (with_reducible repeat (first | refine Zac ?_ _ | refine Zab ?_ | refine Zaa ?_ _)); refine Zak ?_ T.out _; (with_reducible repeat (first | refine Zac ?_ _ | refine Zab ?_ | refine Zaa ?_ _)); refine Zak ?_ T.out _; (with_reducible repeat (first | refine Zac ?_ _ | refine Zab ?_ | refine Zaa ?_ _)); refine Zak ?_ T.out _; (with_reducible repeat (first | refine Zac ?_ _ | refine Zab ?_ | refine Zaa ?_ _)); refine Zak ?_ T.out _; exact bP a.out) hb); replace m := mA (Za1 (g := A) (o := .cells #[.int .i64 ap, .int .i64 au, .int .i64 aw, .slice M U.length I] 26 (0, 0)) (by (with_reducible repeat (first | refine Zac ?_ _ | refine Zab ?_ | refine Zaa ?_ _)); refine Zak ?_ W.out _; (with_reducible repeat (first | refine Zac ?_ _ | refine Zab ?_ | refine Zaa ?_ _)); refine Zak ?_ W.out _; (with_reducible repeat (first | refine Zac ?_ _ | refine Zab ?_ | refine Zaa ?_ _)); refine Zak ?_ W.out _; (with_reducible repeat (first | refine Zac ?_ _ | refine Zab ?_ | refine Zaa ?_ _)); refine Zak ?_ W.out _; exact bP m.out) hb); replace b := mA (Za1 (g := q) (o := .cells #[.int .i64 J, .int .i64 O, .int .i64 P, .slice E y.length B] 26 (0, 0)) (by (with_reducible repeat (first | refine Zac ?_ _ | refine Zab ?_ | refine Zaa ?_ _)); refine Zan (cs := #[.int .i64 J, .int .i64 O, .int .i64 P, .slice none 0 0]) ?_ 3 _ rfl; (with_reducible repeat (first | refine Zac ?_ _ | refine Zab ?_ | refine Zaa ?_ _)); refine Zan (cs := #[.int .i64 J, .int .i64 O, .int .i64 0, .slice none 0 0]) ?_ 2 _ rfl; (with_reducible repeat (first | refine Zac ?_ _ | refine Zab ?_ | refine Zaa ?_ _)); refine Zan (cs := #[.int .i64 J, .int .i64 0, .int .i64 0, .slice none 0 0]) ?_ 1 _ rfl; (with_reducible repeat (first | refine Zac ?_ _ | refine Zab ?_ | refine Zaa ?_ _)); refine Zan (cs := #[.int .i64 0, .int .i64 0, .int .i64 0, .slice none 0 0]) ?_ 0 _ rfl; exact bP b.out) hb); replace HB := mA (Zaf (bW) hb); (try clear hb); (try clear hb2); (try clear hk); (try clear hi)))
   go_meet
   case rel => exact ⟨_, ((bI != bs)), (eW), H', ⟨by first | omega | exact Nat.le_refl _⟩, ⟨by (with_reducible repeat (first | apply zH | apply zI | apply zF)); exact zG ah.out (fun _ hk => ⟨hk.1.1.1.2, ⟨hk.1.2, ⟨hk.1.1.1.1.1.2, ⟨hk.1.1.2, hk.2⟩⟩⟩⟩)⟩, ⟨by (with_reducible repeat (first | apply zH | apply zI | apply zF)); exact zG aG.out (fun _ hk => ⟨hk.1.1.2, ⟨hk.1.2, ⟨hk.1.1.1.1.2, hk.2⟩⟩⟩)⟩, ⟨by (with_reducible repeat (first | apply zH | apply zI | apply zF)); exact zG aP.out (fun _ hk => ⟨hk.1.2, ⟨hk.2, hk.1.1.1.2⟩⟩)⟩, ⟨bP d.out⟩, ⟨bP a.out⟩, ⟨bP m.out⟩, ⟨bP b.out⟩, ⟨bW⟩⟩
  replace cG := Bool.eq_false_iff.mpr cG
  subst cG
  rw [iF] at H
  have H' := mA H
  clear H
  have hP := aN.out
  have hQ := Y.out
  have hR := aC.out
  have hS := T.out
  have hT := aL.out
  have hU := W.out
  have fq : aV.cell? ⟨q, 0, none⟩ = some (.int .i64 0) := bc b 0
  have fr : aV.cell? ⟨q, 1, none⟩ = some (.int .i64 0) := bc b 1
  have fs : aV.cell? ⟨q, 2, none⟩ = some (.int .i64 0) := bc b 2
  have ft : aV.cell? ⟨q, 3, none⟩ = some (.slice none 0 0) := bc b 3
  have fu := Zae b.out 0
  have fv := Zae b.out 1
  have fw := Zae b.out 2
  have fx := Zae b.out 3
  have hV := aJ.out
  have hW := aj.out
  have hX := ak.out
  have hY := aK.out
  have fy : aV.cell? ⟨x, 0, none⟩ = some (.int .i64 X) := bc a 0
  have fz : aV.cell? ⟨x, 1, none⟩ = some (.int .i64 aa) := bc a 1
  have fA : aV.cell? ⟨x, 2, none⟩ = some (.int .i64 ac) := bc a 2
  have fB : aV.cell? ⟨x, 3, none⟩ = some (.slice L z.length G) := bc a 3
  have fC := Zae a.out 0
  have fD := Zae a.out 1
  have fE := Zae a.out 2
  have fF := Zae a.out 3
  go_wp2_with (first | ((with_reducible refine Zat (f := 13) rfl ?_); refine Zbd (some 34) Try.func13 #[.agg #[.int .i64 J, .int .i64 O, .int .i64 P, .slice E y.length B], .agg #[.int .i64 X, .int .i64 aa, .int .i64 ac, .slice L z.length G]] ?_; (with_reducible refine (Zbg.calls k J O P _ _ y X aa ac _ _ z false _ ?side1 ?side2 ?side3 ?side4 ef.out).mono ?_); (case side1 => refine (zU (e := 33) (base := w.heap.size) (ok := fun k_ => ((((True ∧ ai ≤ k_) ∧ some k_ ≠ (.slice bu a1.length bv : Value).ownBlock) ∧ some k_ ≠ (.slice L z.length G : Value).ownBlock) ∧ some k_ ≠ (.slice M U.length I : Value).ownBlock)) (n := y.length) (c := B) ?_).2.2; exact (by (with_reducible repeat (first | apply zH | apply zI | apply zF)); exact (zG (zA (p := ⟨q, 3, none⟩) (zA (p := ⟨q, 2, none⟩) (zA (p := ⟨q, 1, none⟩) (zA (p := ⟨q, 0, none⟩) (zM aP.out b.out (by decide)) (fun _ hk => hk.2) (.int .i64 J)) (fun _ hk => hk.2) (.int .i64 O)) (fun _ hk => hk.2) (.int .i64 P)) (fun _ hk => hk.2) (.slice E y.length B)) (fun _ h_ => h_.1)))); (case side2 => exact (zU aP.out).2.1); (case side3 => refine (zU (e := 33) (base := w.heap.size) (ok := fun k_ => ((((((True ∧ aX ≤ k_) ∧ some k_ ≠ (.slice bu a1.length bv : Value).ownBlock) ∧ some k_ ≠ (.slice M U.length I : Value).ownBlock) ∧ k_ < aF) ∧ some k_ ≠ (.slice E y.length B : Value).ownBlock) ∧ k_ < ai)) (n := z.length) (c := G) ?_).2.2; exact (by (with_reducible repeat (first | apply zH | apply zI | apply zF)); exact (zG (zA (p := ⟨q, 3, none⟩) (zA (p := ⟨q, 2, none⟩) (zA (p := ⟨q, 1, none⟩) (zA (p := ⟨q, 0, none⟩) (zM ah.out b.out (by decide)) (fun _ hk => hk.2) (.int .i64 J)) (fun _ hk => hk.2) (.int .i64 O)) (fun _ hk => hk.2) (.int .i64 P)) (fun _ hk => hk.2) (.slice E y.length B)) (fun _ h_ => h_.1)))); (case side4 => exact (zU ah.out).2.1); rintro e i2 ⟨rfl, hb⟩; refine ⟨_, rfl, ?_⟩; replace ar := mA (zR (by (with_reducible repeat (first | apply zH | apply zI | apply zF)); exact (zG (zA (p := ⟨q, 3, none⟩) (zA (p := ⟨q, 2, none⟩) (zA (p := ⟨q, 1, none⟩) (zA (p := ⟨q, 0, none⟩) (zM ar.out b.out (by decide)) (fun _ hk => hk.2) (.int .i64 J)) (fun _ hk => hk.2) (.int .i64 O)) (fun _ hk => hk.2) (.int .i64 P)) (fun _ hk => hk.2) (.slice E y.length B)) (fun _ h_ => h_.1))) hb); replace ah := mA (zR (by (with_reducible repeat (first | apply zH | apply zI | apply zF)); exact (zG (zA (p := ⟨q, 3, none⟩) (zA (p := ⟨q, 2, none⟩) (zA (p := ⟨q, 1, none⟩) (zA (p := ⟨q, 0, none⟩) (zM ah.out b.out (by decide)) (fun _ hk => hk.2) (.int .i64 J)) (fun _ hk => hk.2) (.int .i64 O)) (fun _ hk => hk.2) (.int .i64 P)) (fun _ hk => hk.2) (.slice E y.length B)) (fun _ h_ => h_.1))) hb); replace aG := mA (zR (by (with_reducible repeat (first | apply zH | apply zI | apply zF)); exact (zG (zA (p := ⟨q, 3, none⟩) (zA (p := ⟨q, 2, none⟩) (zA (p := ⟨q, 1, none⟩) (zA (p := ⟨q, 0, none⟩) (zM aG.out b.out (by decide)) (fun _ hk => hk.2) (.int .i64 J)) (fun _ hk => hk.2) (.int .i64 O)) (fun _ hk => hk.2) (.int .i64 P)) (fun _ hk => hk.2) (.slice E y.length B)) (fun _ h_ => h_.1))) hb); replace aP := mA (zR (by (with_reducible repeat (first | apply zH | apply zI | apply zF)); exact (zG (zA (p := ⟨q, 3, none⟩) (zA (p := ⟨q, 2, none⟩) (zA (p := ⟨q, 1, none⟩) (zA (p := ⟨q, 0, none⟩) (zM aP.out b.out (by decide)) (fun _ hk => hk.2) (.int .i64 J)) (fun _ hk => hk.2) (.int .i64 O)) (fun _ hk => hk.2) (.int .i64 P)) (fun _ hk => hk.2) (.slice E y.length B)) (fun _ h_ => h_.1))) hb); replace d := mA (Za1 (g := aE) (o := .cells #[.int .i64 am, .int .i64 an, .int .i64 ao, .slice aH ae.length aI] 24 (0, 0)) (by (with_reducible repeat (first | refine Zac ?_ _ | refine Zab ?_ | refine Zaa ?_ _)); refine Zak ?_ Y.out _; (with_reducible repeat (first | refine Zac ?_ _ | refine Zab ?_ | refine Zaa ?_ _)); refine Zak ?_ Y.out _; (with_reducible repeat (first | refine Zac ?_ _ | refine Zab ?_ | refine Zaa ?_ _)); refine Zak ?_ Y.out _; (with_reducible repeat (first | refine Zac ?_ _ | refine Zab ?_ | refine Zaa ?_ _)); refine Zak ?_ Y.out _; exact bP d.out) hb); replace a := mA (Za1 (g := x) (o := .cells #[.int .i64 X, .int .i64 aa, .int .i64 ac, .slice L z.length G] 26 (0, 0)) (by (with_reducible repeat (first | refine Zac ?_ _ | refine Zab ?_ | refine Zaa ?_ _)); refine Zak ?_ T.out _; (with_reducible repeat (first | refine Zac ?_ _ | refine Zab ?_ | refine Zaa ?_ _)); refine Zak ?_ T.out _; (with_reducible repeat (first | refine Zac ?_ _ | refine Zab ?_ | refine Zaa ?_ _)); refine Zak ?_ T.out _; (with_reducible repeat (first | refine Zac ?_ _ | refine Zab ?_ | refine Zaa ?_ _)); refine Zak ?_ T.out _; exact bP a.out) hb); replace m := mA (Za1 (g := A) (o := .cells #[.int .i64 ap, .int .i64 au, .int .i64 aw, .slice M U.length I] 26 (0, 0)) (by (with_reducible repeat (first | refine Zac ?_ _ | refine Zab ?_ | refine Zaa ?_ _)); refine Zak ?_ W.out _; (with_reducible repeat (first | refine Zac ?_ _ | refine Zab ?_ | refine Zaa ?_ _)); refine Zak ?_ W.out _; (with_reducible repeat (first | refine Zac ?_ _ | refine Zab ?_ | refine Zaa ?_ _)); refine Zak ?_ W.out _; (with_reducible repeat (first | refine Zac ?_ _ | refine Zab ?_ | refine Zaa ?_ _)); refine Zak ?_ W.out _; exact bP m.out) hb); replace b := mA (Za1 (g := q) (o := .cells #[.int .i64 J, .int .i64 O, .int .i64 P, .slice E y.length B] 26 (0, 0)) (by (with_reducible repeat (first | refine Zac ?_ _ | refine Zab ?_ | refine Zaa ?_ _)); refine Zan (cs := #[.int .i64 J, .int .i64 O, .int .i64 P, .slice none 0 0]) ?_ 3 _ rfl; (with_reducible repeat (first | refine Zac ?_ _ | refine Zab ?_ | refine Zaa ?_ _)); refine Zan (cs := #[.int .i64 J, .int .i64 O, .int .i64 0, .slice none 0 0]) ?_ 2 _ rfl; (with_reducible repeat (first | refine Zac ?_ _ | refine Zab ?_ | refine Zaa ?_ _)); refine Zan (cs := #[.int .i64 J, .int .i64 0, .int .i64 0, .slice none 0 0]) ?_ 1 _ rfl; (with_reducible repeat (first | refine Zac ?_ _ | refine Zab ?_ | refine Zaa ?_ _)); refine Zan (cs := #[.int .i64 0, .int .i64 0, .int .i64 0, .slice none 0 0]) ?_ 0 _ rfl; exact bP b.out) hb); replace HB := mA (Zaf (bW) hb); (try clear hb); (try clear hb2); (try clear hk); (try clear hi)))
  go_meet
  case rel => exact ⟨_, (true), (eW), H', ⟨by first | omega | exact Nat.le_refl _⟩, ⟨by (with_reducible repeat (first | apply zH | apply zI | apply zF)); exact zG ah.out (fun _ hk => ⟨hk.1.1.1.2, ⟨hk.1.2, ⟨hk.1.1.1.1.1.2, ⟨hk.1.1.2, hk.2⟩⟩⟩⟩)⟩, ⟨by (with_reducible repeat (first | apply zH | apply zI | apply zF)); exact zG aG.out (fun _ hk => ⟨hk.1.1.2, ⟨hk.1.2, ⟨hk.1.1.1.1.2, hk.2⟩⟩⟩)⟩, ⟨by (with_reducible repeat (first | apply zH | apply zI | apply zF)); exact zG aP.out (fun _ hk => ⟨hk.1.2, ⟨hk.2, hk.1.1.1.2⟩⟩)⟩, ⟨bP d.out⟩, ⟨bP a.out⟩, ⟨bP m.out⟩, ⟨bP b.out⟩, ⟨bW⟩⟩
 case rest =>
  clear bS dX cR cS cT cU cZ c0 c1 da df dg dh di dn dp dq dr dx dy dz dA dG dH dI dJ cV cW cX cY db dc dd de dj dk dl dm dt du dv dw dB dC dD dE dK dL dM dN
  obtain ⟨kq, bj, rfl, HA, bA, l, s, j, d, a, m, b, HB⟩ := hcut
  cases kq with
  | zero => exact absurd HA.out (by simp [Zar.j0])
  | succ bw =>
   have H := HA.out
   clear HA
   simp only [Zar.j0] at H
   by_cases cH : bj = true
   ·subst cH
    rw [if_pos rfl] at H
    exact absurd (oI H) (by rw [HTr_.out]; decide)
   replace cH := Bool.eq_false_iff.mpr cH
   subst cH
   rw [iF] at H
   replace H := bE H
   obtain ⟨⟨bT, bU, bV, ba⟩, A560, H⟩ := H
   try dsimp only at H
   have gn := mA A560
   clear A560
   replace H := bE H
   obtain ⟨eo, d0, H⟩ := H
   have gp := mA d0
   clear d0
   by_cases cI : eo = true; rotate_left
   ·replace cI := Bool.eq_false_iff.mpr cI
    subst cI
    rw [iF] at H
    exact absurd (oI H) (by rw [HTr_.out]; decide)
   subst cI
   rw [if_pos rfl] at H
   replace H := bE H
   obtain ⟨⟨d1, aO⟩, A590, H⟩ := H
   try dsimp only at H
   have gq := mA A590
   clear A590
   have bX := mA H
   clear H
   try go_wp2
   replace l := mA (zF l.out)
   replace s := mA (zF s.out)
   replace j := mA (zF j.out)
   replace d := mA (Zab d.out)
   replace a := mA (Zab a.out)
   replace m := mA (Zab m.out)
   replace b := mA (Zab b.out)
   replace HB := mA (Za3 HB.out)
   refine start_ (n := 5) (S := fun w' => w'.cell? ⟨A, 0, none⟩ = some (.int .i64 ap) ∧ w'.cell? ⟨A, 1, none⟩ = some (.int .i64 au) ∧ w'.cell? ⟨A, 2, none⟩ = some (.int .i64 aw) ∧ w'.cell? ⟨A, 3, none⟩ = some (.slice M U.length I) ∧ w'.cell? ⟨aE, 0, none⟩ = some (.int .i64 am) ∧ w'.cell? ⟨aE, 1, none⟩ = some (.int .i64 an) ∧ w'.cell? ⟨aE, 2, none⟩ = some (.int .i64 ao) ∧ w'.cell? ⟨aE, 3, none⟩ = some (.slice aH ae.length aI)) (ds := []) #[false, false, false, false, false] (by kernel_rfl) rfl rfl ⟨bc m 0, bc m 1, bc m 2, bc m 3, bc d 0, bc d 1, bc d 2, bc d 3⟩ (fun hHeld => ?_)
   generalize wc.drew = w61 at l s j d a m b HB hHeld ⊢
   refine Zbs (i := 0) (N := some 41) (by kernel_rfl) hHeld ?_
   refine Zbs (i := 1) (N := some 42) (by kernel_rfl) hHeld ?_
   refine one_ (i := 2) (N := some 43) #[true, true, true, false, false] rfl rfl (by kernel_rfl) (by decide) (fun K hK => ?_)
   refine goes_ Try.func11 (by kernel_rfl) rfl #[.agg #[.int .i64 am, .int .i64 an, .int .i64 ao, .slice aH ae.length aI]] (by rfl) rfl rfl (by (try simp only [List.map_toArray, List.map_cons, List.map_nil]); first | done | rfl | (simp only [List.length_drop, List.length_take]; rfl)) ?_
   with_reducible refine (Zbq.calls bw am an ao _ _ ae bT bU bV ba _ ?side1 ?side2 gn.out).mono ?_
   (case side1 => exact cP (zP a8.out HB.out))
   (case side2 => exact a9.out)
   rintro e i3 ⟨iI, rfl, av, hb⟩
   refine ⟨_, rfl, ?_⟩
   obtain ⟨aD, bk⟩ := sizeI hb
   have aT := mA (yM (yN (yN (yN (Kd.S_newI av bk) (yK (sP l.out))) (yK (sP s.out))) (yK (sP j.out))) (Zap (bW)))
   replace l := mA (Kd.S_elderI (sP l.out) (yL av) hb bk)
   replace s := mA (Kd.S_elderI (sP s.out) (yL av) hb bk)
   replace j := mA (Kd.S_elderI (sP j.out) (yL av) hb bk)
   replace d := mA (blkB d.out hb)
   replace a := mA (blkB a.out hb)
   replace m := mA (blkB m.out hb)
   replace b := mA (blkB b.out hb)
   replace HB := mA (Zaf (bW) hb)
   (try clear hb)
   (try clear hb2)
   (try clear hk)
   (try clear hi)
   (try clear av)
   obtain ⟨bB, bC, d2⟩ := yD aT.out
   (first | subst d2 | (injection d2 with eg gr eh; have gs := eg.symm; have gu := eh.symm; clear eg gr eh; subst gs; subst gu))
   refine hK.out _ _ ⟨bc m 0, bc m 1, bc m 2, bc m 3, bc d 0, bc d 1, bc d 2, bc d 3⟩ (fun hHeld => ?_)
   clear hK K
   refine putS 43 ?_
   refine one_ (i := 3) (N := some 44) #[true, true, true, true, false] rfl rfl (by kernel_rfl) (by decide) (fun K hK => ?_)
   refine goes_ Try.func13 (by kernel_rfl) rfl #[.agg #[.int .i64 ap, .int .i64 au, .int .i64 aw, .slice M U.length I], .agg #[.int .i64 bT, .int .i64 bU, .int .i64 bV, .slice bB ba.length bC]] (by rfl) rfl rfl (by (try simp only [List.map_toArray, List.map_cons, List.map_nil]); first | done | rfl | (simp only [List.length_drop, List.length_take]; rfl)) ?_
   with_reducible refine (Zbg.calls bw ap au aw _ _ U bT bU bV _ _ ba true _ ?side1 ?side2 ?side3 ?side4 gp.out).mono ?_
   (case side1 => exact cP ((zU s.out).2.2))
   (case side2 => exact (zU s.out).2.1)
   (case side3 => exact cP ((zU aT.out).2.2))
   (case side4 => exact (zU aT.out).2.1)
   rintro e w64 ⟨rfl, hb⟩
   refine ⟨_, rfl, ?_⟩
   replace l := mA (zR (sP l.out) hb)
   replace s := mA (zR (sP s.out) hb)
   replace j := mA (zR (sP j.out) hb)
   replace aT := mA (zR (sP aT.out) hb)
   replace d := mA (blkB d.out hb)
   replace a := mA (blkB a.out hb)
   replace m := mA (blkB m.out hb)
   replace b := mA (blkB b.out hb)
   replace HB := mA (Zaf (bW) hb)
   (try clear hb)
   (try clear hb2)
   (try clear hk)
   (try clear hi)
   refine hK.out _ _ ⟨bc m 0, bc m 1, bc m 2, bc m 3, bc d 0, bc d 1, bc d 2, bc d 3⟩ (fun hHeld => ?_)
   clear hK K
   refine putS 44 ?_
   refine Zau (i := 4) (N := some 45) (by kernel_rfl) ?_
   refine done_ (by kernel_rfl) ?_
   have hZ := a2.out
   have h0 := aM.out
   have h1 := aK.out
   have h2 := ak.out
   have h3 := W.out
   have h4 := aL.out
   have dO : w64.cell? ⟨A, 0, none⟩ = some (.int .i64 ap) := bc m 0
   have dP : w64.cell? ⟨A, 1, none⟩ = some (.int .i64 au) := bc m 1
   have dQ : w64.cell? ⟨A, 2, none⟩ = some (.int .i64 aw) := bc m 2
   have dR : w64.cell? ⟨A, 3, none⟩ = some (.slice M U.length I) := bc m 3
   have dS := Zae m.out 0
   have dU := Zae m.out 1
   have dV := Zae m.out 2
   have dW := Zae m.out 3
   go_upto_region 14 with (first | ((with_reducible refine Zat (f := 14) rfl ?_); refine Zbd (some 48) Try.func14 #[.agg #[.int .i64 ap, .int .i64 au, .int .i64 aw, .slice M U.length I], .int .i64 1] ?_; (with_reducible refine (Zb8.calls bw ap au aw (fun k_ => (((((((some k_ ≠ (.slice L z.length G : Value).ownBlock ∧ (some k_ ≠ (.slice E y.length B : Value).ownBlock ∧ (aF ≤ k_ ∧ k_ < ai))) ∧ some k_ ≠ (.slice bB ba.length bC : Value).ownBlock) ∧ k_ < aD) ∧ k_ ≠ aE) ∧ k_ ≠ x) ∧ k_ ≠ A) ∧ k_ ≠ q)) (.slice M U.length I) U 1 d1 aO w _ ?side1 ?side2 gq.out).mono ?_); (case side1 => repeat (first | (with_reducible first | exact HB.out | apply Zbc | apply Zba | apply Za3 | refine Za9 ?_ bH.out | refine Za9 ?_ cD.out | refine Za9 ?_ cE.out | refine Za9 ?_ cF.out) | exact HB.out)); (case side2 => exact (zM (zM (zM (zM s.out d.out (by decide)) a.out (by decide)) m.out (by decide)) b.out (by decide))); rintro e aW ⟨rfl, bM, hb, hkp⟩; refine ⟨_, rfl, ?_⟩; replace l := mA (zG (ok' := fun k_ => some k_ ≠ (.slice M U.length I : Value).ownBlock ∧ some k_ ≠ (.slice E y.length B : Value).ownBlock ∧ some k_ ≠ (.slice bB ba.length bC : Value).ownBlock ∧ aX ≤ k_ ∧ k_ < aF ∧ k_ < ai ∧ k_ < aD) (Kd.S_kept (sP l.out) hkp (fun k_ hk_ hs_ => by exact ltge (hk_.1.1.2.2.2.1) (hs_.1.1.1.1.1.1.2.2.1))) (fun k_ h_ => by exact ⟨h_.1.1.1, ⟨h_.1.1.2.1, ⟨h_.1.2, ⟨h_.1.1.2.2.1, ⟨h_.1.1.2.2.2.1, ⟨h_.1.1.2.2.2.2, h_.2⟩⟩⟩⟩⟩⟩)); replace s := mA (zG (ok' := fun k_ => some k_ ≠ (.slice L z.length G : Value).ownBlock ∧ some k_ ≠ (.slice E y.length B : Value).ownBlock ∧ some k_ ≠ (.slice bB ba.length bC : Value).ownBlock ∧ aF ≤ k_ ∧ k_ < ai ∧ k_ < aD) bM (fun k_ h_ => ⟨h_.1.1.1.1.1.1.1, ⟨h_.1.1.1.1.1.1.2.1, ⟨h_.1.1.1.1.1.2, ⟨h_.1.1.1.1.1.1.2.2.1, ⟨h_.1.1.1.1.1.1.2.2.2, h_.1.1.1.1.2⟩⟩⟩⟩⟩)); replace j := mA (zG (ok' := fun k_ => some k_ ≠ (.slice L z.length G : Value).ownBlock ∧ some k_ ≠ (.slice M U.length I : Value).ownBlock ∧ some k_ ≠ (.slice bB ba.length bC : Value).ownBlock ∧ ai ≤ k_ ∧ k_ < aD) (Kd.S_kept (sP j.out) hkp (fun k_ hk_ hs_ => by exact ltge (hs_.1.1.1.1.1.1.2.2.2) (hk_.1.1.2.2))) (fun k_ h_ => by exact ⟨h_.1.1.1, ⟨h_.1.1.2.1, ⟨h_.1.2, ⟨h_.1.1.2.2, h_.2⟩⟩⟩⟩)); replace d := mA (blk_kept (bP d.out) hkp (fun hs_ => (hs_.1.1.1.2) rfl)); replace a := mA (blk_kept (bP a.out) hkp (fun hs_ => (hs_.1.1.2) rfl)); replace m := mA (blk_kept (bP m.out) hkp (fun hs_ => (hs_.1.2) rfl)); replace b := mA (blk_kept (bP b.out) hkp (fun hs_ => (hs_.2) rfl)); replace aT := mA (zG (ok' := fun k_ => some k_ ≠ (.slice L z.length G : Value).ownBlock ∧ some k_ ≠ (.slice M U.length I : Value).ownBlock ∧ some k_ ≠ (.slice E y.length B : Value).ownBlock ∧ aD ≤ k_) (Kd.S_kept (sP aT.out) hkp (fun k_ hk_ hs_ => by exact ltge (hs_.1.1.1.1.2) (hk_.1.1.1.2))) (fun k_ h_ => by exact ⟨h_.1.1.2, ⟨h_.1.2, ⟨h_.2, h_.1.1.1.2⟩⟩⟩)); replace HB := mA (hb); (try clear hb); (try clear hkp); (try clear bM)))
   (try simp only [Act.put, List.setIfInBounds_toArray, List.set_cons_zero, List.set_cons_succ])
   go_cut [61] (fun v61 wc => ∃ (kq : Nat) (bl : Bool), v61 = .bool bl ∧ Zad (Zar.j1 kq bs bl am an ao ae X aa ac z J O P y = some r) ∧ Zad (kq ≤ bw) ∧ Zad (Kd.S (Kd.slice 2 (Kd.int .i64)) 33 wc w.heap.size (fun k_ => some k_ ≠ ((.slice M U.length I) : Value).ownBlock ∧ some k_ ≠ ((.slice E y.length B) : Value).ownBlock ∧ aX ≤ k_ ∧ k_ < aF ∧ k_ < ai ∧ k_ < aD) (.slice L z.length G) z) ∧ Zad (Kd.S (Kd.slice 2 (Kd.int .i64)) 33 wc w.heap.size (fun k_ => some k_ ≠ ((.slice L z.length G) : Value).ownBlock ∧ some k_ ≠ ((.slice E y.length B) : Value).ownBlock ∧ aF ≤ k_ ∧ k_ < ai ∧ k_ < aD) (.slice M U.length I) aO) ∧ Zad (Kd.S (Kd.slice 2 (Kd.int .i64)) 33 wc w.heap.size (fun k_ => some k_ ≠ ((.slice L z.length G) : Value).ownBlock ∧ some k_ ≠ ((.slice M U.length I) : Value).ownBlock ∧ ai ≤ k_ ∧ k_ < aD) (.slice E y.length B) y) ∧ Zad (wc.heap[aE]? = some (.cells #[.int .i64 am, .int .i64 an, .int .i64 ao, (.slice aH ae.length aI)] 24 (0, 0))) ∧ Zad (wc.heap[x]? = some (.cells #[.int .i64 X, .int .i64 aa, .int .i64 ac, (.slice L z.length G)] 26 (0, 0))) ∧ Zad (wc.heap[A]? = some (.cells #[.int .i64 ap, .int .i64 au, .int .i64 aw, (.slice M U.length I)] 26 (0, 0))) ∧ Zad (wc.heap[q]? = some (.cells #[.int .i64 J, .int .i64 O, .int .i64 P, (.slice E y.length B)] 26 (0, 0))) ∧ Zad (Below w.heap.size w wc))
   case first =>
    have H := bX.out
    clear bX
    by_cases bF : d1 < 0
    ·rw [if_pos bF] at H
     have bm := dT bF
     clear bF
     (first | rw [bm] | (simp only [i64_w, i32_w]; rw [bm]) | skip)
     have H' := mA H
     clear H
     go_wp2
     go_meet
     case rel => exact ⟨_, (true), (eW), H', ⟨by have := bA.out; first | omega | exact Nat.le_refl _⟩, ⟨by (with_reducible repeat (first | apply zH | apply zI | apply zF)); exact zG l.out (fun _ hk => ⟨hk.1, ⟨hk.2.1, ⟨hk.2.2.2.1, ⟨hk.2.2.2.2.1, ⟨hk.2.2.2.2.2.1, hk.2.2.2.2.2.2⟩⟩⟩⟩⟩)⟩, ⟨by (with_reducible repeat (first | apply zH | apply zI | apply zF)); exact zG s.out (fun _ hk => ⟨hk.1, ⟨hk.2.1, ⟨hk.2.2.2.1, ⟨hk.2.2.2.2.1, hk.2.2.2.2.2⟩⟩⟩⟩)⟩, ⟨by (with_reducible repeat (first | apply zH | apply zI | apply zF)); exact zG j.out (fun _ hk => ⟨hk.1, ⟨hk.2.1, ⟨hk.2.2.2.1, hk.2.2.2.2⟩⟩⟩)⟩, ⟨bP d.out⟩, ⟨bP a.out⟩, ⟨bP m.out⟩, ⟨bP b.out⟩, ⟨bW⟩⟩
    rw [if_neg bF] at H
    have bm := dF bF
    clear bF
    (first | rw [bm] | (simp only [i64_w, i32_w]; rw [bm]) | skip)
    replace H := bE H
    obtain ⟨ep, d3, H⟩ := H
    have ei := mA d3
    clear d3
    by_cases cJ : ep = true
    ·subst cJ
     rw [if_pos rfl] at H
     have H' := mA H
     clear H
     have h5 := aN.out
     have h6 := Y.out
     have h7 := aC.out
     have h8 := T.out
     have h9 := aL.out
     have ia := W.out
     have fG : aW.cell? ⟨q, 0, none⟩ = some (.int .i64 J) := bc b 0
     have fH : aW.cell? ⟨q, 1, none⟩ = some (.int .i64 O) := bc b 1
     have fI : aW.cell? ⟨q, 2, none⟩ = some (.int .i64 P) := bc b 2
     have fJ : aW.cell? ⟨q, 3, none⟩ = some (.slice E y.length B) := bc b 3
     have fK := Zae b.out 0
     have fL := Zae b.out 1
     have fM := Zae b.out 2
     have fN := Zae b.out 3
     have ib := aJ.out
     have ic := aj.out
     have ie := ak.out
     have ig := aK.out
     have fO : aW.cell? ⟨x, 0, none⟩ = some (.int .i64 X) := bc a 0
     have fP : aW.cell? ⟨x, 1, none⟩ = some (.int .i64 aa) := bc a 1
     have fQ : aW.cell? ⟨x, 2, none⟩ = some (.int .i64 ac) := bc a 2
     have fR : aW.cell? ⟨x, 3, none⟩ = some (.slice L z.length G) := bc a 3
     have fS := Zae a.out 0
     have fT := Zae a.out 1
     have fU := Zae a.out 2
     have fV := Zae a.out 3
     go_wp2_with (first | (go_at_call 13; (with_reducible refine (Zbg.calls bw J O P _ _ y X aa ac _ _ z true _ ?side1 ?side2 ?side3 ?side4 ei.out).mono ?_); (case side1 => exact cP ((zU j.out).2.2)); (case side2 => exact (zU j.out).2.1); (case side3 => exact cP ((zU l.out).2.2)); (case side4 => exact (zU l.out).2.1); rintro e i4 ⟨rfl, hb⟩; replace l := mA (zR (sP l.out) hb); replace s := mA (zR (sP s.out) hb); replace j := mA (zR (sP j.out) hb); replace aT := mA (zR (sP aT.out) hb); replace d := mA (blkB d.out hb); replace a := mA (blkB a.out hb); replace m := mA (blkB m.out hb); replace b := mA (blkB b.out hb); replace HB := mA (Zaf (bW) hb); (try clear hb); (try clear hb2); (try clear hk); (try clear hi)))
     go_meet
     case rel => exact ⟨_, ((bI != bs)), (eW), H', ⟨by have := bA.out; first | omega | exact Nat.le_refl _⟩, ⟨by (with_reducible repeat (first | apply zH | apply zI | apply zF)); exact zG l.out (fun _ hk => ⟨hk.1, ⟨hk.2.1, ⟨hk.2.2.2.1, ⟨hk.2.2.2.2.1, ⟨hk.2.2.2.2.2.1, hk.2.2.2.2.2.2⟩⟩⟩⟩⟩)⟩, ⟨by (with_reducible repeat (first | apply zH | apply zI | apply zF)); exact zG s.out (fun _ hk => ⟨hk.1, ⟨hk.2.1, ⟨hk.2.2.2.1, ⟨hk.2.2.2.2.1, hk.2.2.2.2.2⟩⟩⟩⟩)⟩, ⟨by (with_reducible repeat (first | apply zH | apply zI | apply zF)); exact zG j.out (fun _ hk => ⟨hk.1, ⟨hk.2.1, ⟨hk.2.2.2.1, hk.2.2.2.2⟩⟩⟩)⟩, ⟨bP d.out⟩, ⟨bP a.out⟩, ⟨bP m.out⟩, ⟨bP b.out⟩, ⟨bW⟩⟩
    replace cJ := Bool.eq_false_iff.mpr cJ
    subst cJ
    rw [iF] at H
    have H' := mA H
    clear H
    have ih := aN.out
    have ii := Y.out
    have ij := aC.out
    have ik := T.out
    have il := aL.out
    have im := W.out
    have fW : aW.cell? ⟨q, 0, none⟩ = some (.int .i64 J) := bc b 0
    have fX : aW.cell? ⟨q, 1, none⟩ = some (.int .i64 O) := bc b 1
    have fY : aW.cell? ⟨q, 2, none⟩ = some (.int .i64 P) := bc b 2
    have fZ : aW.cell? ⟨q, 3, none⟩ = some (.slice E y.length B) := bc b 3
    have f0 := Zae b.out 0
    have f1 := Zae b.out 1
    have f2 := Zae b.out 2
    have f3 := Zae b.out 3
    have io := aJ.out
    have ip := aj.out
    have iq := ak.out
    have ir := aK.out
    have f4 : aW.cell? ⟨x, 0, none⟩ = some (.int .i64 X) := bc a 0
    have f5 : aW.cell? ⟨x, 1, none⟩ = some (.int .i64 aa) := bc a 1
    have f6 : aW.cell? ⟨x, 2, none⟩ = some (.int .i64 ac) := bc a 2
    have f7 : aW.cell? ⟨x, 3, none⟩ = some (.slice L z.length G) := bc a 3
    have f8 := Zae a.out 0
    have f9 := Zae a.out 1
    have ga := Zae a.out 2
    have gb := Zae a.out 3
    go_wp2_with (first | (go_at_call 13; (with_reducible refine (Zbg.calls bw J O P _ _ y X aa ac _ _ z false _ ?side1 ?side2 ?side3 ?side4 ei.out).mono ?_); (case side1 => exact cP ((zU j.out).2.2)); (case side2 => exact (zU j.out).2.1); (case side3 => exact cP ((zU l.out).2.2)); (case side4 => exact (zU l.out).2.1); rintro e i5 ⟨rfl, hb⟩; replace l := mA (zR (sP l.out) hb); replace s := mA (zR (sP s.out) hb); replace j := mA (zR (sP j.out) hb); replace aT := mA (zR (sP aT.out) hb); replace d := mA (blkB d.out hb); replace a := mA (blkB a.out hb); replace m := mA (blkB m.out hb); replace b := mA (blkB b.out hb); replace HB := mA (Zaf (bW) hb); (try clear hb); (try clear hb2); (try clear hk); (try clear hi)))
    go_meet
    case rel => exact ⟨_, (true), (eW), H', ⟨by have := bA.out; first | omega | exact Nat.le_refl _⟩, ⟨by (with_reducible repeat (first | apply zH | apply zI | apply zF)); exact zG l.out (fun _ hk => ⟨hk.1, ⟨hk.2.1, ⟨hk.2.2.2.1, ⟨hk.2.2.2.2.1, ⟨hk.2.2.2.2.2.1, hk.2.2.2.2.2.2⟩⟩⟩⟩⟩)⟩, ⟨by (with_reducible repeat (first | apply zH | apply zI | apply zF)); exact zG s.out (fun _ hk => ⟨hk.1, ⟨hk.2.1, ⟨hk.2.2.2.1, ⟨hk.2.2.2.2.1, hk.2.2.2.2.2⟩⟩⟩⟩)⟩, ⟨by (with_reducible repeat (first | apply zH | apply zI | apply zF)); exact zG j.out (fun _ hk => ⟨hk.1, ⟨hk.2.1, ⟨hk.2.2.2.1, hk.2.2.2.2⟩⟩⟩)⟩, ⟨bP d.out⟩, ⟨bP a.out⟩, ⟨bP m.out⟩, ⟨bP b.out⟩, ⟨bW⟩⟩
   case rest =>
    clear bX dO dP dQ dR dS dU dV dW
    obtain ⟨kq, bl, rfl, HA, d4, l, s, j, d, a, m, b, HB⟩ := hcut
    have v := (zU s.out).1
    rw [v] at s
    (try simp only [v])
    (try simp only [v] at d)
    (try simp only [v] at a)
    (try simp only [v] at m)
    (try simp only [v] at b)
    (try simp only [v] at l)
    (try simp only [v] at j)
    cases kq with
    | zero => exact absurd HA.out (by simp [Zar.j1])
    | succ bb =>
     have H := HA.out
     clear HA
     simp only [Zar.j1] at H
     by_cases cK : bl = true
     ·subst cK
      rw [if_pos rfl] at H
      exact absurd (oI H) (by rw [HTr_.out]; decide)
     replace cK := Bool.eq_false_iff.mpr cK
     subst cK
     rw [iF] at H
     replace H := bE H
     obtain ⟨⟨aU, a0⟩, A900, H⟩ := H
     try dsimp only at H
     have cC := mA A900
     clear A900
     replace H := bE H
     obtain ⟨bd, d5, H⟩ := H
     have gv := mA d5
     clear d5
     by_cases bG : bd < 0
     ·rw [if_pos bG] at H
      have cL := dT bG
      clear bG
      exact absurd (oI H) (by rw [HTr_.out]; decide)
     rw [if_neg bG] at H
     have cL := dF bG
     clear bG
     by_cases bD : bd = aU; rotate_left
     ·rw [if_neg bD] at H
      have cM : (bd == aU) = false := beq_eq_false_iff_ne.mpr bD
      have cN : (bd != aU) = true := bne_iff_ne.mpr bD
      exact absurd (oI H) (by rw [HTr_.out]; decide)
     rw [if_pos bD] at H
     have cM : (bd == aU) = true := beq_iff_eq.mpr bD
     have cN : (bd != aU) = false := bne_eq_false_iff_eq.mpr bD
     clear bD
     replace H := bE H
     obtain ⟨⟨bY, bZ, b0, bf⟩, A940, H⟩ := H
     try dsimp only at H
     have gw := mA A940
     clear A940
     replace H := bE H
     obtain ⟨⟨aq, ax, aB, af, d6⟩, A950, H⟩ := H
     try dsimp only at H
     have gx := mA A950
     clear A950
     have b1 := mA H
     clear H
     have it := aN.out
     have iu := Y.out
     have iv := aC.out
     have iw := T.out
     have ix := aL.out
     have iy := W.out
     have b2 : wc.cell? ⟨q, 0, none⟩ = some (.int .i64 J) := bc b 0
     have b3 : wc.cell? ⟨q, 1, none⟩ = some (.int .i64 O) := bc b 1
     have b4 : wc.cell? ⟨q, 2, none⟩ = some (.int .i64 P) := bc b 2
     have b5 : wc.cell? ⟨q, 3, none⟩ = some (.slice E y.length B) := bc b 3
     have b6 := Zae b.out 0
     have b7 := Zae b.out 1
     have b8 := Zae b.out 2
     have b9 := Zae b.out 3
     go_upto_region 25 with (first | ((with_reducible refine Zat (f := 14) rfl ?_); refine Zbd (some 64) Try.func14 #[.agg #[.int .i64 J, .int .i64 O, .int .i64 P, .slice E y.length B], .int .i64 1] ?_; (with_reducible refine (Zb8.calls bb J O P (fun k_ => (((((some k_ ≠ (.slice L z.length G : Value).ownBlock ∧ (some k_ ≠ (.slice M aO.length I : Value).ownBlock ∧ (ai ≤ k_ ∧ k_ < aD))) ∧ k_ ≠ aE) ∧ k_ ≠ x) ∧ k_ ≠ A) ∧ k_ ≠ q)) (.slice E y.length B) y 1 aU a0 w _ ?side1 ?side2 cC.out).mono ?_); (case side1 => repeat (first | (with_reducible first | exact HB.out | apply Zbc | apply Zba | apply Za3 | refine Za9 ?_ bH.out | refine Za9 ?_ cD.out | refine Za9 ?_ cE.out | refine Za9 ?_ cF.out) | exact HB.out)); (case side2 => exact (zM (zM (zM (zM j.out d.out (by decide)) a.out (by decide)) m.out (by decide)) b.out (by decide))); rintro e iJ ⟨rfl, bM, hb, hkp⟩; refine ⟨_, rfl, ?_⟩; replace l := mA (zG (ok' := fun k_ => some k_ ≠ (.slice M aO.length I : Value).ownBlock ∧ some k_ ≠ (.slice E y.length B : Value).ownBlock ∧ aX ≤ k_ ∧ k_ < aF ∧ k_ < ai ∧ k_ < aD) (Kd.S_kept (sP l.out) hkp (fun k_ hk_ hs_ => by exact ltge (hk_.2.2.2.2.1) (hs_.1.1.1.1.2.2.1))) (fun k_ h_ => by exact ⟨h_.1, ⟨h_.2.1, ⟨h_.2.2.1, ⟨h_.2.2.2.1, ⟨h_.2.2.2.2.1, h_.2.2.2.2.2⟩⟩⟩⟩⟩)); replace s := mA (zG (ok' := fun k_ => some k_ ≠ (.slice L z.length G : Value).ownBlock ∧ some k_ ≠ (.slice E y.length B : Value).ownBlock ∧ aF ≤ k_ ∧ k_ < ai ∧ k_ < aD) (Kd.S_kept (sP s.out) hkp (fun k_ hk_ hs_ => by exact ltge (hk_.2.2.2.1) (hs_.1.1.1.1.2.2.1))) (fun k_ h_ => by exact ⟨h_.1, ⟨h_.2.1, ⟨h_.2.2.1, ⟨h_.2.2.2.1, h_.2.2.2.2⟩⟩⟩⟩)); replace j := mA (zG (ok' := fun k_ => some k_ ≠ (.slice L z.length G : Value).ownBlock ∧ some k_ ≠ (.slice M aO.length I : Value).ownBlock ∧ ai ≤ k_ ∧ k_ < aD) bM (fun k_ h_ => ⟨h_.1.1.1.1.1, ⟨h_.1.1.1.1.2.1, ⟨h_.1.1.1.1.2.2.1, h_.1.1.1.1.2.2.2⟩⟩⟩)); replace d := mA (blk_kept (bP d.out) hkp (fun hs_ => (hs_.1.1.1.2) rfl)); replace a := mA (blk_kept (bP a.out) hkp (fun hs_ => (hs_.1.1.2) rfl)); replace m := mA (blk_kept (bP m.out) hkp (fun hs_ => (hs_.1.2) rfl)); replace b := mA (blk_kept (bP b.out) hkp (fun hs_ => (hs_.2) rfl)); replace HB := mA (hb); (try clear hb); (try clear hkp); (try clear bM); obtain ⟨ca, cb, cc, cd⟩ := Zay b.out; obtain ⟨ce, cf, cg, ch⟩ := frz4 b.out) | ((with_reducible refine Zat (f := 15) rfl ?_); refine goesL_ (some 67) rfl rfl Try.func15 (by kernel_rfl) rfl #[.agg #[.int .i64 J, .int .i64 O, .int .i64 P, .slice E a0.length B], .int .i64 1] rfl (by (try simp only [List.map_toArray, List.map_cons, List.map_nil]); first | done | (rw [show a0.length = y.length from (zU j.out).1.symm] <;> rfl) | rfl | (simp only [List.length_drop, List.length_take]; rfl)) ?_; (with_reducible refine (Zb4.calls bb J O P _ _ a0 1 bd _ ?side1 ?side2 gv.out).mono ?_); (case side1 => exact cP ((zU j.out).2.2)); (case side2 => rw [show a0.length = y.length from (zU j.out).1.symm]; exact (zU j.out).2.1); rintro e iK ⟨rfl, hb⟩; refine ⟨_, rfl, ?_⟩; replace l := mA (zR (sP l.out) hb); replace s := mA (zR (sP s.out) hb); replace j := mA (zR (sP j.out) hb); replace d := mA (blkB d.out hb); replace a := mA (blkB a.out hb); replace m := mA (blkB m.out hb); replace b := mA (blkB b.out hb); replace HB := mA (Zaf (bW) hb); (try clear hb); (try clear hb2); (try clear hk); (try clear hi); have gy := aj.out; have gz := aJ.out; have gA := aM.out; have gB := a2.out; obtain ⟨ci, cj, ck, cm⟩ := Zay d.out; obtain ⟨cn, co, cp, cq⟩ := frz4 d.out) | ((with_reducible refine Zat (f := 11) rfl ?_); refine Zbd (some 75) Try.func11 #[.agg #[.int .i64 am, .int .i64 an, .int .i64 ao, .slice aH ae.length aI]] ?_; (with_reducible refine (Zbq.calls bb am an ao _ _ ae bY bZ b0 bf _ ?side1 ?side2 gw.out).mono ?_); (case side1 => exact cP (zP a8.out HB.out)); (case side2 => exact a9.out); rintro e iL ⟨iM, rfl, av, hb⟩; refine ⟨_, rfl, ?_⟩; obtain ⟨bn, bo⟩ := sizeI hb; have aS := mA (yM (yN (yN (yN (Kd.S_newI av bo) (yK (sP l.out))) (yK (sP s.out))) (yK (sP j.out))) (Zap (bW))); replace l := mA (Kd.S_elderI (sP l.out) (yL av) hb bo); replace s := mA (Kd.S_elderI (sP s.out) (yL av) hb bo); replace j := mA (Kd.S_elderI (sP j.out) (yL av) hb bo); replace d := mA (blkB d.out hb); replace a := mA (blkB a.out hb); replace m := mA (blkB m.out hb); replace b := mA (blkB b.out hb); replace HB := mA (Zaf (bW) hb); (try clear hb); (try clear hb2); (try clear hk); (try clear hi); (try clear av); obtain ⟨bp, bq, ec⟩ := yD aS.out; subst ec) | ((with_reducible refine Zat (f := 17) rfl ?_); refine Zbd (some 76) Try.func17 #[.agg #[.int .i64 bY, .int .i64 bZ, .int .i64 b0, .slice bp bf.length bq]] ?_; (with_reducible refine (Zbw.calls bb bY bZ b0 _ _ bf aq ax aB af d6 _ ?side1 ?side2 gx.out).mono ?_); (case side1 => exact cP ((zU aS.out).2.2)); (case side2 => exact (zU aS.out).2.1); rintro e iN ⟨iO, rfl, av, hb⟩; refine ⟨_, rfl, ?_⟩; obtain ⟨aY, a3⟩ := sizeI hb; have aQ := mA (yM (yN (yN (yN (yN (Kd.S_newI av a3) (yK (sP l.out))) (yK (sP s.out))) (yK (sP j.out))) (yK (sP aS.out))) (Zap (bW))); replace l := mA (Kd.S_elderI (sP l.out) (yL av) hb a3); replace s := mA (Kd.S_elderI (sP s.out) (yL av) hb a3); replace j := mA (Kd.S_elderI (sP j.out) (yL av) hb a3); replace aS := mA (Kd.S_elderI (sP aS.out) (yL av) hb a3); replace d := mA (blkB d.out hb); replace a := mA (blkB a.out hb); replace m := mA (blkB m.out hb); replace b := mA (blkB b.out hb); replace HB := mA (Zaf (bW) hb); (try clear hb); (try clear hb2); (try clear hk); (try clear hi); (try clear av)) | ((with_reducible refine Zaq (N := 12) rfl ?_); refine boxS (N := 12) (cs := #[.int .i64 0, .int .i64 0, .int .i64 0, .slice none 0 0]) (t := 26) ?_; intro u hg aR hbox hb; replace l := mA (zR (sP l.out) hb); replace s := mA (zR (sP s.out) hb); replace j := mA (zR (sP j.out) hb); replace aS := mA (zR (sP aS.out) hb); replace aQ := mA (zR (sP aQ.out) hb); have D := mA (hbox); have iz := geW (w := w) hg; have iA := geW (w := w) hg; replace HB := mA (Zaf (bW) hb); have ay := mA (neB hg d); have a4 := mA (neC hg d); replace d := mA (blkB d.out hb); have az := mA (neB hg a); have a5 := mA (neC hg a); replace a := mA (blkB a.out hb); have aA := mA (neB hg m); have a6 := mA (neC hg m); replace m := mA (blkB m.out hb); have al := mA (neB hg b); have aZ := mA (neC hg b); replace b := mA (blkB b.out hb); clear hb hbox hg; have gC := a4.out; have gD := ay.out; have gE := a5.out; have gF := az.out; have gG := a6.out; have gH := aA.out; have gI := aZ.out; have gJ := al.out; obtain ⟨cr, ct, cu, cv⟩ := Zay D.out; obtain ⟨cw, cx, cy, cz⟩ := frz4 D.out; obtain ⟨ad, ab, ed⟩ := yD aQ.out; subst ed))
     (try simp only [Act.put, List.setIfInBounds_toArray, List.set_cons_zero, List.set_cons_succ])
     go_cut [87] (fun v87 wc => ∃ (kq : Nat) (br : Bool), v87 = .bool br ∧ Zad (Zar.j2 kq aU br J O P a0 = some r) ∧ Zad (kq ≤ bb) ∧ Zad (Kd.S (Kd.slice 2 (Kd.int .i64)) 33 wc w.heap.size (fun k_ => some k_ ≠ ((.slice M aO.length I) : Value).ownBlock ∧ some k_ ≠ ((.slice E y.length B) : Value).ownBlock ∧ some k_ ≠ ((.slice ad af.length ab) : Value).ownBlock ∧ aX ≤ k_ ∧ k_ < aF ∧ k_ < ai ∧ k_ < aD ∧ k_ < bn ∧ k_ < aY) (.slice L z.length G) z) ∧ Zad (Kd.S (Kd.slice 2 (Kd.int .i64)) 33 wc w.heap.size (fun k_ => some k_ ≠ ((.slice L z.length G) : Value).ownBlock ∧ some k_ ≠ ((.slice E y.length B) : Value).ownBlock ∧ some k_ ≠ ((.slice ad af.length ab) : Value).ownBlock ∧ aF ≤ k_ ∧ k_ < ai ∧ k_ < aD ∧ k_ < bn ∧ k_ < aY) (.slice M aO.length I) aO) ∧ Zad (Kd.S (Kd.slice 2 (Kd.int .i64)) 33 wc w.heap.size (fun k_ => some k_ ≠ ((.slice L z.length G) : Value).ownBlock ∧ some k_ ≠ ((.slice M aO.length I) : Value).ownBlock ∧ some k_ ≠ ((.slice ad af.length ab) : Value).ownBlock ∧ ai ≤ k_ ∧ k_ < aD ∧ k_ < bn ∧ k_ < aY) (.slice E y.length B) a0) ∧ Zad (Kd.S (Kd.slice 2 (Kd.int .i64)) 33 wc w.heap.size (fun k_ => some k_ ≠ ((.slice L z.length G) : Value).ownBlock ∧ some k_ ≠ ((.slice M aO.length I) : Value).ownBlock ∧ some k_ ≠ ((.slice E y.length B) : Value).ownBlock ∧ aY ≤ k_) (.slice ad af.length ab) af) ∧ Zad (wc.heap[aE]? = some (.cells #[.int .i64 am, .int .i64 an, .int .i64 ao, (.slice aH ae.length aI)] 24 (0, 0))) ∧ Zad (wc.heap[x]? = some (.cells #[.int .i64 X, .int .i64 aa, .int .i64 ac, (.slice L z.length G)] 26 (0, 0))) ∧ Zad (wc.heap[A]? = some (.cells #[.int .i64 ap, .int .i64 au, .int .i64 aw, (.slice M aO.length I)] 26 (0, 0))) ∧ Zad (wc.heap[q]? = some (.cells #[.int .i64 J, .int .i64 O, .int .i64 P, (.slice E y.length B)] 26 (0, 0))) ∧ Zad (wc.heap[u]? = some (.cells #[.int .i64 aq, .int .i64 ax, .int .i64 aB, (.slice ad af.length ab)] 26 (0, 0))) ∧ Zad (Below w.heap.size w wc))
     case first =>
      have H := b1.out
      clear b1
      replace H := bE H
      obtain ⟨er, cO, H⟩ := H
      have d7 := mA cO
      clear cO
      by_cases bJ : er = true
      ·subst bJ
       rw [if_pos rfl] at H
       have H' := mA H
       clear H
       have gK := a4.out
       have gL := ay.out
       have gM := a5.out
       have gN := az.out
       have gO := a6.out
       have gP := aA.out
       have gQ := aZ.out
       have gR := al.out
       have es : aR.cell? ⟨u, 0, none⟩ = some (.int .i64 0) := bc D 0
       have et : aR.cell? ⟨u, 1, none⟩ = some (.int .i64 0) := bc D 1
       have eu : aR.cell? ⟨u, 2, none⟩ = some (.int .i64 0) := bc D 2
       have ev : aR.cell? ⟨u, 3, none⟩ = some (.slice none 0 0) := bc D 3
       have ew := Zae D.out 0
       have ey := Zae D.out 1
       have ez := Zae D.out 2
       have eA := Zae D.out 3
       have gS := aJ.out
       have gT := aj.out
       have gU := ak.out
       have gV := aK.out
       have gW := T.out
       have gX := aC.out
       have eB : aR.cell? ⟨x, 0, none⟩ = some (.int .i64 X) := bc a 0
       have eC : aR.cell? ⟨x, 1, none⟩ = some (.int .i64 aa) := bc a 1
       have eD : aR.cell? ⟨x, 2, none⟩ = some (.int .i64 ac) := bc a 2
       have eE : aR.cell? ⟨x, 3, none⟩ = some (.slice L z.length G) := bc a 3
       have eF := Zae a.out 0
       have eG := Zae a.out 1
       have eH := Zae a.out 2
       have eI := Zae a.out 3
       go_wp2_with (first | ((with_reducible refine Zat (f := 13) rfl ?_); refine Zbd (some 81) Try.func13 #[.agg #[.int .i64 aq, .int .i64 ax, .int .i64 aB, .slice ad af.length ab], .agg #[.int .i64 X, .int .i64 aa, .int .i64 ac, .slice L z.length G]] ?_; (with_reducible refine (Zbg.calls bb aq ax aB _ _ af X aa ac _ _ z true _ ?side1 ?side2 ?side3 ?side4 d7.out).mono ?_); (case side1 => refine (zU (e := 33) (base := w.heap.size) (ok := fun k_ => (((((True ∧ aY ≤ k_) ∧ some k_ ≠ (.slice L z.length G : Value).ownBlock) ∧ some k_ ≠ (.slice M aO.length I : Value).ownBlock) ∧ some k_ ≠ (.slice E y.length B : Value).ownBlock) ∧ some k_ ≠ (.slice bp bf.length bq : Value).ownBlock)) (n := af.length) (c := ab) ?_).2.2; exact (by (with_reducible repeat (first | apply zH | apply zI | apply zF)); exact (zG (zA (p := ⟨u, 3, none⟩) (zA (p := ⟨u, 2, none⟩) (zA (p := ⟨u, 1, none⟩) (zA (p := ⟨u, 0, none⟩) (zM aQ.out D.out (by decide)) (fun _ hk => hk.2) (.int .i64 aq)) (fun _ hk => hk.2) (.int .i64 ax)) (fun _ hk => hk.2) (.int .i64 aB)) (fun _ hk => hk.2) (.slice ad af.length ab)) (fun _ h_ => h_.1)))); (case side2 => exact (zU aQ.out).2.1); (case side3 => refine (zU (e := 33) (base := w.heap.size) (ok := fun k_ => (((((some k_ ≠ (.slice M aO.length I : Value).ownBlock ∧ (some k_ ≠ (.slice E y.length B : Value).ownBlock ∧ (aX ≤ k_ ∧ (k_ < aF ∧ (k_ < ai ∧ k_ < aD))))) ∧ some k_ ≠ (.slice bp bf.length bq : Value).ownBlock) ∧ k_ < bn) ∧ some k_ ≠ (.slice ad af.length ab : Value).ownBlock) ∧ k_ < aY)) (n := z.length) (c := G) ?_).2.2; exact (by (with_reducible repeat (first | apply zH | apply zI | apply zF)); exact (zG (zA (p := ⟨u, 3, none⟩) (zA (p := ⟨u, 2, none⟩) (zA (p := ⟨u, 1, none⟩) (zA (p := ⟨u, 0, none⟩) (zM l.out D.out (by decide)) (fun _ hk => hk.2) (.int .i64 aq)) (fun _ hk => hk.2) (.int .i64 ax)) (fun _ hk => hk.2) (.int .i64 aB)) (fun _ hk => hk.2) (.slice ad af.length ab)) (fun _ h_ => h_.1)))); (case side4 => exact (zU l.out).2.1); rintro e iP ⟨rfl, hb⟩; refine ⟨_, rfl, ?_⟩; replace l := mA (zR (by (with_reducible repeat (first | apply zH | apply zI | apply zF)); exact (zG (zA (p := ⟨u, 3, none⟩) (zA (p := ⟨u, 2, none⟩) (zA (p := ⟨u, 1, none⟩) (zA (p := ⟨u, 0, none⟩) (zM l.out D.out (by decide)) (fun _ hk => hk.2) (.int .i64 aq)) (fun _ hk => hk.2) (.int .i64 ax)) (fun _ hk => hk.2) (.int .i64 aB)) (fun _ hk => hk.2) (.slice ad af.length ab)) (fun _ h_ => h_.1))) hb); replace s := mA (zR (by (with_reducible repeat (first | apply zH | apply zI | apply zF)); exact (zG (zA (p := ⟨u, 3, none⟩) (zA (p := ⟨u, 2, none⟩) (zA (p := ⟨u, 1, none⟩) (zA (p := ⟨u, 0, none⟩) (zM s.out D.out (by decide)) (fun _ hk => hk.2) (.int .i64 aq)) (fun _ hk => hk.2) (.int .i64 ax)) (fun _ hk => hk.2) (.int .i64 aB)) (fun _ hk => hk.2) (.slice ad af.length ab)) (fun _ h_ => h_.1))) hb); replace j := mA (zR (by (with_reducible repeat (first | apply zH | apply zI | apply zF)); exact (zG (zA (p := ⟨u, 3, none⟩) (zA (p := ⟨u, 2, none⟩) (zA (p := ⟨u, 1, none⟩) (zA (p := ⟨u, 0, none⟩) (zM j.out D.out (by decide)) (fun _ hk => hk.2) (.int .i64 aq)) (fun _ hk => hk.2) (.int .i64 ax)) (fun _ hk => hk.2) (.int .i64 aB)) (fun _ hk => hk.2) (.slice ad af.length ab)) (fun _ h_ => h_.1))) hb); replace aS := mA (zR (by (with_reducible repeat (first | apply zH | apply zI | apply zF)); exact (zG (zA (p := ⟨u, 3, none⟩) (zA (p := ⟨u, 2, none⟩) (zA (p := ⟨u, 1, none⟩) (zA (p := ⟨u, 0, none⟩) (zM aS.out D.out (by decide)) (fun _ hk => hk.2) (.int .i64 aq)) (fun _ hk => hk.2) (.int .i64 ax)) (fun _ hk => hk.2) (.int .i64 aB)) (fun _ hk => hk.2) (.slice ad af.length ab)) (fun _ h_ => h_.1))) hb); replace aQ := mA (zR (by (with_reducible repeat (first | apply zH | apply zI | apply zF)); exact (zG (zA (p := ⟨u, 3, none⟩) (zA (p := ⟨u, 2, none⟩) (zA (p := ⟨u, 1, none⟩) (zA (p := ⟨u, 0, none⟩) (zM aQ.out D.out (by decide)) (fun _ hk => hk.2) (.int .i64 aq)) (fun _ hk => hk.2) (.int .i64 ax)) (fun _ hk => hk.2) (.int .i64 aB)) (fun _ hk => hk.2) (.slice ad af.length ab)) (fun _ h_ => h_.1))) hb); replace d := mA (Za1 (g := aE) (o := .cells #[.int .i64 am, .int .i64 an, .int .i64 ao, .slice aH ae.length aI] 24 (0, 0)) (by (with_reducible repeat (first | refine Zac ?_ _ | refine Zab ?_ | refine Zaa ?_ _)); refine Zak ?_ ay.out _; (with_reducible repeat (first | refine Zac ?_ _ | refine Zab ?_ | refine Zaa ?_ _)); refine Zak ?_ ay.out _; (with_reducible repeat (first | refine Zac ?_ _ | refine Zab ?_ | refine Zaa ?_ _)); refine Zak ?_ ay.out _; (with_reducible repeat (first | refine Zac ?_ _ | refine Zab ?_ | refine Zaa ?_ _)); refine Zak ?_ ay.out _; exact bP d.out) hb); replace a := mA (Za1 (g := x) (o := .cells #[.int .i64 X, .int .i64 aa, .int .i64 ac, .slice L z.length G] 26 (0, 0)) (by (with_reducible repeat (first | refine Zac ?_ _ | refine Zab ?_ | refine Zaa ?_ _)); refine Zak ?_ az.out _; (with_reducible repeat (first | refine Zac ?_ _ | refine Zab ?_ | refine Zaa ?_ _)); refine Zak ?_ az.out _; (with_reducible repeat (first | refine Zac ?_ _ | refine Zab ?_ | refine Zaa ?_ _)); refine Zak ?_ az.out _; (with_reducible repeat (first | refine Zac ?_ _ | refine Zab ?_ | refine Zaa ?_ _)); refine Zak ?_ az.out _; exact bP a.out) hb); replace m := mA (Za1 (g := A) (o := .cells #[.int .i64 ap, .int .i64 au, .int .i64 aw, .slice M aO.length I] 26 (0, 0)) (by (with_reducible repeat (first | refine Zac ?_ _ | refine Zab ?_ | refine Zaa ?_ _)); refine Zak ?_ aA.out _; (with_reducible repeat (first | refine Zac ?_ _ | refine Zab ?_ | refine Zaa ?_ _)); refine Zak ?_ aA.out _; (with_reducible repeat (first | refine Zac ?_ _ | refine Zab ?_ | refine Zaa ?_ _)); refine Zak ?_ aA.out _; (with_reducible repeat (first | refine Zac ?_ _ | refine Zab ?_ | refine Zaa ?_ _)); refine Zak ?_ aA.out _; exact bP m.out) hb); replace b := mA (Za1 (g := q) (o := .cells #[.int .i64 J, .int .i64 O, .int .i64 P, .slice E y.length B] 26 (0, 0)) (by (with_reducible repeat (first | refine Zac ?_ _ | refine Zab ?_ | refine Zaa ?_ _)); refine Zak ?_ al.out _; (with_reducible repeat (first | refine Zac ?_ _ | refine Zab ?_ | refine Zaa ?_ _)); refine Zak ?_ al.out _; (with_reducible repeat (first | refine Zac ?_ _ | refine Zab ?_ | refine Zaa ?_ _)); refine Zak ?_ al.out _; (with_reducible repeat (first | refine Zac ?_ _ | refine Zab ?_ | refine Zaa ?_ _)); refine Zak ?_ al.out _; exact bP b.out) hb); replace D := mA (Za1 (g := u) (o := .cells #[.int .i64 aq, .int .i64 ax, .int .i64 aB, .slice ad af.length ab] 26 (0, 0)) (by (with_reducible repeat (first | refine Zac ?_ _ | refine Zab ?_ | refine Zaa ?_ _)); refine Zan (cs := #[.int .i64 aq, .int .i64 ax, .int .i64 aB, .slice none 0 0]) ?_ 3 _ rfl; (with_reducible repeat (first | refine Zac ?_ _ | refine Zab ?_ | refine Zaa ?_ _)); refine Zan (cs := #[.int .i64 aq, .int .i64 ax, .int .i64 0, .slice none 0 0]) ?_ 2 _ rfl; (with_reducible repeat (first | refine Zac ?_ _ | refine Zab ?_ | refine Zaa ?_ _)); refine Zan (cs := #[.int .i64 aq, .int .i64 0, .int .i64 0, .slice none 0 0]) ?_ 1 _ rfl; (with_reducible repeat (first | refine Zac ?_ _ | refine Zab ?_ | refine Zaa ?_ _)); refine Zan (cs := #[.int .i64 0, .int .i64 0, .int .i64 0, .slice none 0 0]) ?_ 0 _ rfl; exact bP D.out) hb); replace HB := mA (Zaf (bW) hb); (try clear hb); (try clear hb2); (try clear hk); (try clear hi)))
       go_meet
       case rel => exact ⟨_, ((d6 != bs)), (eW), H', ⟨by have := bA.out; have := d4.out; first | omega | exact Nat.le_refl _⟩, ⟨by (try simp only [v]); (with_reducible repeat (first | apply zH | apply zI | apply zF)); exact zG l.out (fun _ hk => ⟨hk.1.1.1.1.1, ⟨hk.1.1.1.1.2.1, ⟨hk.1.2, ⟨hk.1.1.1.1.2.2.1, ⟨hk.1.1.1.1.2.2.2.1, ⟨hk.1.1.1.1.2.2.2.2.1, ⟨hk.1.1.1.1.2.2.2.2.2, ⟨hk.1.1.2, hk.2⟩⟩⟩⟩⟩⟩⟩⟩)⟩, ⟨by (try simp only [v]); (with_reducible repeat (first | apply zH | apply zI | apply zF)); exact zG s.out (fun _ hk => ⟨hk.1.1.1.1.1, ⟨hk.1.1.1.1.2.1, ⟨hk.1.2, ⟨hk.1.1.1.1.2.2.1, ⟨hk.1.1.1.1.2.2.2.1, ⟨hk.1.1.1.1.2.2.2.2, ⟨hk.1.1.2, hk.2⟩⟩⟩⟩⟩⟩⟩)⟩, ⟨by (try simp only [v]); (with_reducible repeat (first | apply zH | apply zI | apply zF)); exact zG j.out (fun _ hk => ⟨hk.1.1.1.1.1, ⟨hk.1.1.1.1.2.1, ⟨hk.1.2, ⟨hk.1.1.1.1.2.2.1, ⟨hk.1.1.1.1.2.2.2, ⟨hk.1.1.2, hk.2⟩⟩⟩⟩⟩⟩)⟩, ⟨by (try simp only [v]); (with_reducible repeat (first | apply zH | apply zI | apply zF)); exact zG aQ.out (fun _ hk => ⟨hk.1.1.1.2, ⟨hk.1.1.2, ⟨hk.1.2, hk.1.1.1.1.2⟩⟩⟩)⟩, ⟨by (try simp only [v]); exact bP d.out⟩, ⟨by (try simp only [v]); exact bP a.out⟩, ⟨by (try simp only [v]); exact bP m.out⟩, ⟨by (try simp only [v]); exact bP b.out⟩, ⟨by (try simp only [v]); exact bP D.out⟩, ⟨bW⟩⟩
      replace bJ := Bool.eq_false_iff.mpr bJ
      subst bJ
      rw [iF] at H
      have H' := mA H
      clear H
      have gY := a4.out
      have gZ := ay.out
      have g0 := a5.out
      have g1 := az.out
      have g2 := a6.out
      have g3 := aA.out
      have g4 := aZ.out
      have g5 := al.out
      have eJ : aR.cell? ⟨u, 0, none⟩ = some (.int .i64 0) := bc D 0
      have eK : aR.cell? ⟨u, 1, none⟩ = some (.int .i64 0) := bc D 1
      have eL : aR.cell? ⟨u, 2, none⟩ = some (.int .i64 0) := bc D 2
      have eM : aR.cell? ⟨u, 3, none⟩ = some (.slice none 0 0) := bc D 3
      have eN := Zae D.out 0
      have eO := Zae D.out 1
      have eP := Zae D.out 2
      have eQ := Zae D.out 3
      have g6 := aJ.out
      have g7 := aj.out
      have g8 := ak.out
      have g9 := aK.out
      have ha := T.out
      have hc := aC.out
      have eR : aR.cell? ⟨x, 0, none⟩ = some (.int .i64 X) := bc a 0
      have eS : aR.cell? ⟨x, 1, none⟩ = some (.int .i64 aa) := bc a 1
      have eT : aR.cell? ⟨x, 2, none⟩ = some (.int .i64 ac) := bc a 2
      have eU : aR.cell? ⟨x, 3, none⟩ = some (.slice L z.length G) := bc a 3
      have eV := Zae a.out 0
      have eX := Zae a.out 1
      have eY := Zae a.out 2
      have eZ := Zae a.out 3
      go_wp2_with (first | ((with_reducible refine Zat (f := 13) rfl ?_); refine Zbd (some 81) Try.func13 #[.agg #[.int .i64 aq, .int .i64 ax, .int .i64 aB, .slice ad af.length ab], .agg #[.int .i64 X, .int .i64 aa, .int .i64 ac, .slice L z.length G]] ?_; (with_reducible refine (Zbg.calls bb aq ax aB _ _ af X aa ac _ _ z false _ ?side1 ?side2 ?side3 ?side4 d7.out).mono ?_); (case side1 => refine (zU (e := 33) (base := w.heap.size) (ok := fun k_ => (((((True ∧ aY ≤ k_) ∧ some k_ ≠ (.slice L z.length G : Value).ownBlock) ∧ some k_ ≠ (.slice M aO.length I : Value).ownBlock) ∧ some k_ ≠ (.slice E y.length B : Value).ownBlock) ∧ some k_ ≠ (.slice bp bf.length bq : Value).ownBlock)) (n := af.length) (c := ab) ?_).2.2; exact (by (with_reducible repeat (first | apply zH | apply zI | apply zF)); exact (zG (zA (p := ⟨u, 3, none⟩) (zA (p := ⟨u, 2, none⟩) (zA (p := ⟨u, 1, none⟩) (zA (p := ⟨u, 0, none⟩) (zM aQ.out D.out (by decide)) (fun _ hk => hk.2) (.int .i64 aq)) (fun _ hk => hk.2) (.int .i64 ax)) (fun _ hk => hk.2) (.int .i64 aB)) (fun _ hk => hk.2) (.slice ad af.length ab)) (fun _ h_ => h_.1)))); (case side2 => exact (zU aQ.out).2.1); (case side3 => refine (zU (e := 33) (base := w.heap.size) (ok := fun k_ => (((((some k_ ≠ (.slice M aO.length I : Value).ownBlock ∧ (some k_ ≠ (.slice E y.length B : Value).ownBlock ∧ (aX ≤ k_ ∧ (k_ < aF ∧ (k_ < ai ∧ k_ < aD))))) ∧ some k_ ≠ (.slice bp bf.length bq : Value).ownBlock) ∧ k_ < bn) ∧ some k_ ≠ (.slice ad af.length ab : Value).ownBlock) ∧ k_ < aY)) (n := z.length) (c := G) ?_).2.2; exact (by (with_reducible repeat (first | apply zH | apply zI | apply zF)); exact (zG (zA (p := ⟨u, 3, none⟩) (zA (p := ⟨u, 2, none⟩) (zA (p := ⟨u, 1, none⟩) (zA (p := ⟨u, 0, none⟩) (zM l.out D.out (by decide)) (fun _ hk => hk.2) (.int .i64 aq)) (fun _ hk => hk.2) (.int .i64 ax)) (fun _ hk => hk.2) (.int .i64 aB)) (fun _ hk => hk.2) (.slice ad af.length ab)) (fun _ h_ => h_.1)))); (case side4 => exact (zU l.out).2.1); rintro e iQ ⟨rfl, hb⟩; refine ⟨_, rfl, ?_⟩; replace l := mA (zR (by (with_reducible repeat (first | apply zH | apply zI | apply zF)); exact (zG (zA (p := ⟨u, 3, none⟩) (zA (p := ⟨u, 2, none⟩) (zA (p := ⟨u, 1, none⟩) (zA (p := ⟨u, 0, none⟩) (zM l.out D.out (by decide)) (fun _ hk => hk.2) (.int .i64 aq)) (fun _ hk => hk.2) (.int .i64 ax)) (fun _ hk => hk.2) (.int .i64 aB)) (fun _ hk => hk.2) (.slice ad af.length ab)) (fun _ h_ => h_.1))) hb); replace s := mA (zR (by (with_reducible repeat (first | apply zH | apply zI | apply zF)); exact (zG (zA (p := ⟨u, 3, none⟩) (zA (p := ⟨u, 2, none⟩) (zA (p := ⟨u, 1, none⟩) (zA (p := ⟨u, 0, none⟩) (zM s.out D.out (by decide)) (fun _ hk => hk.2) (.int .i64 aq)) (fun _ hk => hk.2) (.int .i64 ax)) (fun _ hk => hk.2) (.int .i64 aB)) (fun _ hk => hk.2) (.slice ad af.length ab)) (fun _ h_ => h_.1))) hb); replace j := mA (zR (by (with_reducible repeat (first | apply zH | apply zI | apply zF)); exact (zG (zA (p := ⟨u, 3, none⟩) (zA (p := ⟨u, 2, none⟩) (zA (p := ⟨u, 1, none⟩) (zA (p := ⟨u, 0, none⟩) (zM j.out D.out (by decide)) (fun _ hk => hk.2) (.int .i64 aq)) (fun _ hk => hk.2) (.int .i64 ax)) (fun _ hk => hk.2) (.int .i64 aB)) (fun _ hk => hk.2) (.slice ad af.length ab)) (fun _ h_ => h_.1))) hb); replace aS := mA (zR (by (with_reducible repeat (first | apply zH | apply zI | apply zF)); exact (zG (zA (p := ⟨u, 3, none⟩) (zA (p := ⟨u, 2, none⟩) (zA (p := ⟨u, 1, none⟩) (zA (p := ⟨u, 0, none⟩) (zM aS.out D.out (by decide)) (fun _ hk => hk.2) (.int .i64 aq)) (fun _ hk => hk.2) (.int .i64 ax)) (fun _ hk => hk.2) (.int .i64 aB)) (fun _ hk => hk.2) (.slice ad af.length ab)) (fun _ h_ => h_.1))) hb); replace aQ := mA (zR (by (with_reducible repeat (first | apply zH | apply zI | apply zF)); exact (zG (zA (p := ⟨u, 3, none⟩) (zA (p := ⟨u, 2, none⟩) (zA (p := ⟨u, 1, none⟩) (zA (p := ⟨u, 0, none⟩) (zM aQ.out D.out (by decide)) (fun _ hk => hk.2) (.int .i64 aq)) (fun _ hk => hk.2) (.int .i64 ax)) (fun _ hk => hk.2) (.int .i64 aB)) (fun _ hk => hk.2) (.slice ad af.length ab)) (fun _ h_ => h_.1))) hb); replace d := mA (Za1 (g := aE) (o := .cells #[.int .i64 am, .int .i64 an, .int .i64 ao, .slice aH ae.length aI] 24 (0, 0)) (by (with_reducible repeat (first | refine Zac ?_ _ | refine Zab ?_ | refine Zaa ?_ _)); refine Zak ?_ ay.out _; (with_reducible repeat (first | refine Zac ?_ _ | refine Zab ?_ | refine Zaa ?_ _)); refine Zak ?_ ay.out _; (with_reducible repeat (first | refine Zac ?_ _ | refine Zab ?_ | refine Zaa ?_ _)); refine Zak ?_ ay.out _; (with_reducible repeat (first | refine Zac ?_ _ | refine Zab ?_ | refine Zaa ?_ _)); refine Zak ?_ ay.out _; exact bP d.out) hb); replace a := mA (Za1 (g := x) (o := .cells #[.int .i64 X, .int .i64 aa, .int .i64 ac, .slice L z.length G] 26 (0, 0)) (by (with_reducible repeat (first | refine Zac ?_ _ | refine Zab ?_ | refine Zaa ?_ _)); refine Zak ?_ az.out _; (with_reducible repeat (first | refine Zac ?_ _ | refine Zab ?_ | refine Zaa ?_ _)); refine Zak ?_ az.out _; (with_reducible repeat (first | refine Zac ?_ _ | refine Zab ?_ | refine Zaa ?_ _)); refine Zak ?_ az.out _; (with_reducible repeat (first | refine Zac ?_ _ | refine Zab ?_ | refine Zaa ?_ _)); refine Zak ?_ az.out _; exact bP a.out) hb); replace m := mA (Za1 (g := A) (o := .cells #[.int .i64 ap, .int .i64 au, .int .i64 aw, .slice M aO.length I] 26 (0, 0)) (by (with_reducible repeat (first | refine Zac ?_ _ | refine Zab ?_ | refine Zaa ?_ _)); refine Zak ?_ aA.out _; (with_reducible repeat (first | refine Zac ?_ _ | refine Zab ?_ | refine Zaa ?_ _)); refine Zak ?_ aA.out _; (with_reducible repeat (first | refine Zac ?_ _ | refine Zab ?_ | refine Zaa ?_ _)); refine Zak ?_ aA.out _; (with_reducible repeat (first | refine Zac ?_ _ | refine Zab ?_ | refine Zaa ?_ _)); refine Zak ?_ aA.out _; exact bP m.out) hb); replace b := mA (Za1 (g := q) (o := .cells #[.int .i64 J, .int .i64 O, .int .i64 P, .slice E y.length B] 26 (0, 0)) (by (with_reducible repeat (first | refine Zac ?_ _ | refine Zab ?_ | refine Zaa ?_ _)); refine Zak ?_ al.out _; (with_reducible repeat (first | refine Zac ?_ _ | refine Zab ?_ | refine Zaa ?_ _)); refine Zak ?_ al.out _; (with_reducible repeat (first | refine Zac ?_ _ | refine Zab ?_ | refine Zaa ?_ _)); refine Zak ?_ al.out _; (with_reducible repeat (first | refine Zac ?_ _ | refine Zab ?_ | refine Zaa ?_ _)); refine Zak ?_ al.out _; exact bP b.out) hb); replace D := mA (Za1 (g := u) (o := .cells #[.int .i64 aq, .int .i64 ax, .int .i64 aB, .slice ad af.length ab] 26 (0, 0)) (by (with_reducible repeat (first | refine Zac ?_ _ | refine Zab ?_ | refine Zaa ?_ _)); refine Zan (cs := #[.int .i64 aq, .int .i64 ax, .int .i64 aB, .slice none 0 0]) ?_ 3 _ rfl; (with_reducible repeat (first | refine Zac ?_ _ | refine Zab ?_ | refine Zaa ?_ _)); refine Zan (cs := #[.int .i64 aq, .int .i64 ax, .int .i64 0, .slice none 0 0]) ?_ 2 _ rfl; (with_reducible repeat (first | refine Zac ?_ _ | refine Zab ?_ | refine Zaa ?_ _)); refine Zan (cs := #[.int .i64 aq, .int .i64 0, .int .i64 0, .slice none 0 0]) ?_ 1 _ rfl; (with_reducible repeat (first | refine Zac ?_ _ | refine Zab ?_ | refine Zaa ?_ _)); refine Zan (cs := #[.int .i64 0, .int .i64 0, .int .i64 0, .slice none 0 0]) ?_ 0 _ rfl; exact bP D.out) hb); replace HB := mA (Zaf (bW) hb); (try clear hb); (try clear hb2); (try clear hk); (try clear hi)))
      go_meet
      case rel => exact ⟨_, (true), (eW), H', ⟨by have := bA.out; have := d4.out; first | omega | exact Nat.le_refl _⟩, ⟨by (try simp only [v]); (with_reducible repeat (first | apply zH | apply zI | apply zF)); exact zG l.out (fun _ hk => ⟨hk.1.1.1.1.1, ⟨hk.1.1.1.1.2.1, ⟨hk.1.2, ⟨hk.1.1.1.1.2.2.1, ⟨hk.1.1.1.1.2.2.2.1, ⟨hk.1.1.1.1.2.2.2.2.1, ⟨hk.1.1.1.1.2.2.2.2.2, ⟨hk.1.1.2, hk.2⟩⟩⟩⟩⟩⟩⟩⟩)⟩, ⟨by (try simp only [v]); (with_reducible repeat (first | apply zH | apply zI | apply zF)); exact zG s.out (fun _ hk => ⟨hk.1.1.1.1.1, ⟨hk.1.1.1.1.2.1, ⟨hk.1.2, ⟨hk.1.1.1.1.2.2.1, ⟨hk.1.1.1.1.2.2.2.1, ⟨hk.1.1.1.1.2.2.2.2, ⟨hk.1.1.2, hk.2⟩⟩⟩⟩⟩⟩⟩)⟩, ⟨by (try simp only [v]); (with_reducible repeat (first | apply zH | apply zI | apply zF)); exact zG j.out (fun _ hk => ⟨hk.1.1.1.1.1, ⟨hk.1.1.1.1.2.1, ⟨hk.1.2, ⟨hk.1.1.1.1.2.2.1, ⟨hk.1.1.1.1.2.2.2, ⟨hk.1.1.2, hk.2⟩⟩⟩⟩⟩⟩)⟩, ⟨by (try simp only [v]); (with_reducible repeat (first | apply zH | apply zI | apply zF)); exact zG aQ.out (fun _ hk => ⟨hk.1.1.1.2, ⟨hk.1.1.2, ⟨hk.1.2, hk.1.1.1.1.2⟩⟩⟩)⟩, ⟨by (try simp only [v]); exact bP d.out⟩, ⟨by (try simp only [v]); exact bP a.out⟩, ⟨by (try simp only [v]); exact bP m.out⟩, ⟨by (try simp only [v]); exact bP b.out⟩, ⟨by (try simp only [v]); exact bP D.out⟩, ⟨bW⟩⟩
     case rest =>
      clear b1 cL cM cN b2 b3 b4 b5 ca cb cc cd ci cj ck cm cr ct cu cv b6 b7 b8 b9 ce cf cg ch cn co cp cq cw cx cy cz
      obtain ⟨kq, br, rfl, HA, iR, l, s, j, a7, d, a, m, b, D, HB⟩ := hcut
      have ag := (zU j.out).1
      rw [ag] at j
      (try simp only [ag])
      (try simp only [ag] at d)
      (try simp only [ag] at a)
      (try simp only [ag] at m)
      (try simp only [ag] at b)
      (try simp only [ag] at D)
      (try simp only [ag] at l)
      (try simp only [ag] at s)
      (try simp only [ag] at a7)
      cases kq with
      | zero => exact absurd HA.out (by simp [Zar.j2])
      | succ e0 =>
       have H := HA.out
       clear HA
       simp only [Zar.j2] at H
       by_cases bK : br = true
       ·subst bK
        rw [if_pos rfl] at H
        exact absurd (oI H) (by rw [HTr_.out]; decide)
       replace bK := Bool.eq_false_iff.mpr bK
       subst bK
       rw [iF] at H
       replace H := bE H
       obtain ⟨bg, cQ, H⟩ := H
       have e1 := mA cQ
       clear cQ
       by_cases bx : bg < 0
       ·rw [if_pos bx] at H
        have d8 := dT bx
        clear bx
        exact absurd (oI H) (by rw [HTr_.out]; decide)
       rw [if_neg bx] at H
       have d8 := dF bx
       clear bx
       by_cases bh : bg = aU; rotate_left
       ·rw [if_neg bh] at H
        have d9 : (bg == aU) = false := beq_eq_false_iff_ne.mpr bh
        have ea : (bg != aU) = true := bne_iff_ne.mpr bh
        exact absurd (oI H) (by rw [HTr_.out]; decide)
       rw [if_pos bh] at H
       have d9 : (bg == aU) = true := beq_iff_eq.mpr bh
       have ea : (bg != aU) = false := bne_eq_false_iff_eq.mpr bh
       clear bh
       obtain rfl := oI H
       have hd := aN.out
       have he := Y.out
       have hf := aC.out
       have hh := T.out
       have hj := aL.out
       have hl := W.out
       have hm := al.out
       have hn := aZ.out
       have e2 : wc.cell? ⟨q, 0, none⟩ = some (.int .i64 J) := bc b 0
       have e3 : wc.cell? ⟨q, 1, none⟩ = some (.int .i64 O) := bc b 1
       have e4 : wc.cell? ⟨q, 2, none⟩ = some (.int .i64 P) := bc b 2
       have e5 : wc.cell? ⟨q, 3, none⟩ = some (.slice E a0.length B) := bc b 3
       have e6 := Zae b.out 0
       have e7 := Zae b.out 1
       have e8 := Zae b.out 2
       have e9 := Zae b.out 3
       go_wp2_with (first | ((with_reducible refine Zat (f := 15) rfl ?_); refine Zbd (some 90) Try.func15 #[.agg #[.int .i64 J, .int .i64 O, .int .i64 P, .slice E a0.length B], .int .i64 1] ?_; (with_reducible refine (Zb4.calls e0 J O P _ _ a0 1 bg _ ?side1 ?side2 e1.out).mono ?_); (case side1 => exact cP ((zU j.out).2.2)); (case side2 => exact (zU j.out).2.1); rintro e iS ⟨rfl, hb⟩; refine ⟨_, rfl, ?_⟩; replace l := mA (zR (sP l.out) hb); replace s := mA (zR (sP s.out) hb); replace j := mA (zR (sP j.out) hb); replace a7 := mA (zR (sP a7.out) hb); replace d := mA (blkB d.out hb); replace a := mA (blkB a.out hb); replace m := mA (blkB m.out hb); replace b := mA (blkB b.out hb); replace D := mA (blkB D.out hb); replace HB := mA (Zaf (bW) hb); (try clear hb); (try clear hb2); (try clear hk); (try clear hi)))
       go_ret
       exact ⟨eW, bW⟩
end Go.Proofs.Ytgindgodfcfgkaa.P
end M0
