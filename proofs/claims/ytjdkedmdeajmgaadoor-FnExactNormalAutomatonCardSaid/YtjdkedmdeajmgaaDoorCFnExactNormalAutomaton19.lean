import Derived.Test.YtjdkedmdeajmgaaDoorCFnExactNormalAutomaton8
import Derived.Test.YtjdkedmdeajmgaaDoorCFnExactNormalAutomaton18
section M0
namespace Go.Proofs.YtjdkedmdeajmgaaDoor.P
open Go.RowKit Go.Proofs.YtjdkedmdeajmgaaDoor.Sh Go.Proofs.YtjdkedmdeajmgaaDoorW.PrintWords Go.Proofs.YtjdkedmdeajmgaaDoorW.PrintLast Go.Proofs.YtjdkedmdeajmgaaDoorW.PrintMore
open Kd
attribute [local go_sem] Zcf Zch Zcv Zcu Zb6 Zb7 Zcg Zce   -- for this text's walks alone
set_option linter.unusedVariables false
set_option linter.unusedSimpArgs false
mutual
def Zav.j0 : Nat → Int → Int → Bool → Int → List Int → Int → Int → Int → List (List Int) → Int → List Int → Int → Int → Int → List (List Int) → Option (Bool)
 | 0, _, _, _, _, _, _, _, _, _, _, _, _, _, _, _ => none
 | k + 1, x5, x8, s, a, b, c, d, e, g, m, n, h, i, j, l => if s = true then (some false) else ((Zb1.f k a b).bind fun o => ((Zdb.f k m n o.1 o.2).bind fun q => (if q = true then ((Zc0.f k m n 1).bind fun p => (if p.1 < 0 then (Zav.j1 k x5 true a b c d e g h i j l) else ((Zbv.f k h i j l c d e g).bind fun r => (if r = true then (Zav.j1 k x5 (x8 != x5) a b c d e g h i j l) else (Zav.j1 k x5 true a b c d e g h i j l))))) else (some false))))
def Zav.j1 : Nat → Int → Bool → Int → List Int → Int → Int → Int → List (List Int) → Int → Int → Int → List (List Int) → Option (Bool)
 | 0, _, _, _, _, _, _, _, _, _, _, _, _ => none
 | k + 1, x5, r, h, i, j, l, m, n, a, b, c, o => if r = true then (some false) else ((Zc6.f k a b c o 1).bind fun d => ((Zca.f k a b c d.2 1).bind fun p => (if p < 0 then (some false) else (if p = d.1 then ((Zb1.f k h i).bind fun g => ((Zb2.f k g.1 g.2).bind fun e => ((Zbv.f k e.1 e.2.1 e.2.2.1 e.2.2.2.1 j l m n).bind fun q => (if q = true then (Zav.j2 k d.1 (e.2.2.2.2 != x5) a b c d.2) else (Zav.j2 k d.1 true a b c d.2))))) else (some false)))))
def Zav.j2 : Nat → Int → Bool → Int → Int → Int → List (List Int) → Option (Bool)
 | 0, _, _, _, _, _, _ => none
 | k + 1, g, h, a, b, c, d => if h = true then (some false) else ((Zca.f k a b c d 1).bind fun e => (if e < 0 then (some false) else (if e = g then (some true) else (some false))))
end
def Zav.f (k : Nat) (d : Int) (e : List Int) : Option (Bool) := (Zc4.f d e 1048576).bind fun h => (if h < 0 then (some true) else ((Zb1.f k d e).bind fun g => ((Za8.f k g.1 g.2).bind fun a => ((Zb1.f k d e).bind fun c => ((Zb2.f k c.1 c.2).bind fun b => ((Zbv.f k b.1 b.2.1 b.2.2.1 b.2.2.2.1 a.1 a.2.1 a.2.2.1 a.2.2.2.1).bind fun i => (if i = true then (Zav.j0 k a.2.2.2.2 b.2.2.2.2 (b.2.2.2.2 != a.2.2.2.2) d e a.1 a.2.1 a.2.2.1 a.2.2.2.1 c.1 c.2 b.1 b.2.1 b.2.2.1 b.2.2.2.1) else (Zav.j0 k a.2.2.2.2 b.2.2.2.2 true d e a.1 a.2.1 a.2.2.1 a.2.2.2.1 c.1 c.2 b.1 b.2.1 b.2.2.1 b.2.2.2.1))))))))
set_option maxHeartbeats 8000000 in
set_option maxRecDepth 100000 in
theorem Zav.calls (k : Nat) (aj : Int) (aA : Option Addr) (aB : Nat) (ad : List Int) (r : Bool) (w : World) (cd : Kd.C (Kd.int .i64) w aA ad.length ad) (ce : ad.length ≤ aB) (h : Zav.f k aj ad = some r) (hT_ : r = true) (hTab : Tab w) :
  Calls Tryd.prog 4 #[.agg #[.int .i64 aj, .slice aA ad.length aB]] w fun e w' => e = .returned (.bool r) ∧ Below w.heap.size w w' := by
 have HTab := mA hTab
 clear hTab
 have HTr_ := mA hT_
 clear hT_
 have hB := Tryd.underlying24
 have hC := Tryd.underlying39
 have hD := Tryd.underlying30
 have a1 := mA cd
 have a2 := mA ce
 clear cd ce
 have HB := mA (Below.refl w.heap.size w)
 unfold Zav.f at h
 have H := h
 clear h
 obtain ⟨bz, A2, H⟩ := bA H
 by_cases c3 : bz < 0
 ·rw [if_pos c3] at H
  have db := dT c3
  clear c3
  obtain rfl := oI H
  go_enter Tryd.func4, Tryd.ntmps4
  go_wp2_with (first | ((with_reducible refine Zat (N := 1) rfl ?_); refine boxS (N := 1) (cs := #[.int .i64 aj, .slice aA ad.length aB]) (t := 24) ?_; intro aH hg w4 hbox hb; have j := mA (hbox); have dl := geW (w := w) hg; have br := geW (w := w) hg; replace HB := mA (Zaf (bW) hb); clear hb hbox hg; obtain ⟨fp, fq⟩ := Zcj j.out; obtain ⟨fr, fs⟩ := frz2 j.out) | ((with_reducible refine Zax (f := 9) rfl ?_); refine Zbi (some 16) Tryd.func9 #[.agg #[.int .i64 aj, .slice aA ad.length aB], .int .i64 1048576] ?_; (with_reducible refine (Zc4.calls aj _ _ ad 1048576 bz _ ?side1 ?side2 A2.out).mono ?_); (case side1 => exact cP (zQ a1.out HB.out)); (case side2 => exact a2.out); rintro e w6 ⟨rfl, hb⟩; refine ⟨_, rfl, ?_⟩; replace j := mA (blkB j.out hb); replace HB := mA (Zaf (bW) hb); (try clear hb); (try clear hb2); (try clear hk); (try clear hi)))
  go_ret
  exact ⟨eW, bW⟩
 rw [if_neg c3] at H
 have db := dF c3
 clear c3
 obtain ⟨⟨bB, aV⟩, A7, H⟩ := bA H
 try dsimp only at H
 obtain ⟨⟨X, aa, ac, A, bg⟩, A8, H⟩ := bA H
 try dsimp only at H
 obtain ⟨⟨an, P⟩, A9, H⟩ := bA H
 try dsimp only at H
 obtain ⟨⟨G, J, L, y, bs⟩, A10, H⟩ := bA H
 try dsimp only at H
 have bC := mA H
 clear H
 go_enter Tryd.func4, Tryd.ntmps4
 go_upto_region 8 with (first | ((with_reducible refine Zat (N := 1) rfl ?_); refine boxS (N := 1) (cs := #[.int .i64 aj, .slice aA ad.length aB]) (t := 24) ?_; intro aH hg hU hbox hb; have j := mA (hbox); have dl := geW (w := w) hg; have br := geW (w := w) hg; replace HB := mA (Zaf (bW) hb); clear hb hbox hg; obtain ⟨cr, ct⟩ := Zcj j.out; obtain ⟨cu, cv⟩ := frz2 j.out) | ((with_reducible refine Zax (f := 9) rfl ?_); refine Zbi (some 16) Tryd.func9 #[.agg #[.int .i64 aj, .slice aA ad.length aB], .int .i64 1048576] ?_; (with_reducible refine (Zc4.calls aj _ _ ad 1048576 bz _ ?side1 ?side2 A2.out).mono ?_); (case side1 => exact cP (zQ a1.out HB.out)); (case side2 => exact a2.out); rintro e hV ⟨rfl, hb⟩; refine ⟨_, rfl, ?_⟩; replace j := mA (blkB j.out hb); replace HB := mA (Zaf (bW) hb); (try clear hb); (try clear hb2); (try clear hk); (try clear hi); obtain ⟨cw, cx⟩ := Zcj j.out; obtain ⟨cy, cz⟩ := frz2 j.out) | ((with_reducible refine Zax (f := 12) rfl ?_); refine Zbi (some 21) Tryd.func12 #[.agg #[.int .i64 aj, .slice aA ad.length aB]] ?_; (with_reducible refine (Zb1.calls k aj _ _ ad bB aV _ ?side1 ?side2 A7.out).mono ?_); (case side1 => exact cP (zQ a1.out HB.out)); (case side2 => exact a2.out); rintro e hW ⟨hE, rfl, aw, hb⟩; refine ⟨_, rfl, ?_⟩; have al := mA (zS aw (Zaj (bW))); replace j := mA (blkB j.out hb); replace HB := mA (Zaf (bW) hb); (try clear hb); (try clear hb2); (try clear hk); (try clear hi); (try clear aw); obtain ⟨bh, bi, du⟩ := zP al.out; subst du) | ((with_reducible refine Zax (f := 17) rfl ?_); refine Zbi (some 22) Tryd.func17 #[.agg #[.int .i64 bB, .slice bh aV.length bi]] ?_; (with_reducible refine (Za8.calls k bB _ _ aV X aa ac A bg _ ?side1 ?side2 A8.out).mono ?_); (case side1 => exact cP ((zJ al.out).2.2)); (case side2 => exact (zJ al.out).2.1); rintro e hX ⟨hF, rfl, aw, hb⟩; refine ⟨_, rfl, ?_⟩; obtain ⟨aR, dc⟩ := sizeI hb; have am := mA (yL (yM (Kd.S_newI aw dc) (zI (rP al.out))) (Zaj (bW))); replace al := mA (zK (rP al.out) hb); replace j := mA (blkB j.out hb); replace HB := mA (Zaf (bW) hb); (try clear hb); (try clear hb2); (try clear hk); (try clear hi); (try clear aw)) | ((with_reducible refine Zat (N := 4) rfl ?_); refine boxS (N := 4) (cs := #[.int .i64 0, .int .i64 0, .int .i64 0, .slice none 0 0]) (t := 39) ?_; intro x hg hY hbox hb; replace al := mA (zK (rP al.out) hb); replace am := mA (zW (sP am.out) hb); have a := mA (hbox); have gp := geW (w := w) hg; have cf := geW (w := w) hg; replace HB := mA (Zaf (bW) hb); have ah := mA (neB hg j); have aC := mA (neC hg j); replace j := mA (blkB j.out hb); clear hb hbox hg; have gq := aC.out; have gr := ah.out; obtain ⟨cA, cB, cC, cD⟩ := Zbl a.out; obtain ⟨cE, cF, cG, cH⟩ := frz4 a.out; obtain ⟨U, M, dv⟩ := yE am.out; subst dv; obtain ⟨cI, cJ⟩ := Zcj j.out; obtain ⟨cK, cL⟩ := frz2 j.out) | ((with_reducible refine Zax (f := 12) rfl ?_); refine Zbi (some 26) Tryd.func12 #[.agg #[.int .i64 aj, .slice aA ad.length aB]] ?_; (with_reducible refine (Zb1.calls k aj _ _ ad an P _ ?side1 ?side2 A9.out).mono ?_); (case side1 => exact zQ a1.out (bW)); (case side2 => exact a2.out); rintro e hZ ⟨hG, rfl, aw, hb⟩; refine ⟨_, rfl, ?_⟩; replace am := mA (yQ (by (with_reducible repeat (first | apply zL | apply zM | apply zH)); exact (zG (zE (p := ⟨x, 3, none⟩) (zE (p := ⟨x, 2, none⟩) (zE (p := ⟨x, 1, none⟩) (zE (p := ⟨x, 0, none⟩) (zX am.out a.out (by decide)) (fun _ hk => hk.2) (.int .i64 X)) (fun _ hk => hk.2) (.int .i64 aa)) (fun _ hk => hk.2) (.int .i64 ac)) (fun _ hk => hk.2) (.slice U A.length M)) (fun _ h_ => h_.1))) (zU aw) hb); have az := mA (zS (yC aw (zI (by (with_reducible repeat (first | apply zC | apply zD | apply zA)); exact (zB (zF (p := ⟨x, 3, none⟩) (zF (p := ⟨x, 2, none⟩) (zF (p := ⟨x, 1, none⟩) (zF (p := ⟨x, 0, none⟩) (zV al.out a.out (by decide)) (fun _ hk => hk.2) (.int .i64 X)) (fun _ hk => hk.2) (.int .i64 aa)) (fun _ hk => hk.2) (.int .i64 ac)) (fun _ hk => hk.2) (.slice U A.length M)) (fun _ h_ => h_.1))))) (Zaj (bW))); replace al := mA (zZ (by (with_reducible repeat (first | apply zC | apply zD | apply zA)); exact (zB (zF (p := ⟨x, 3, none⟩) (zF (p := ⟨x, 2, none⟩) (zF (p := ⟨x, 1, none⟩) (zF (p := ⟨x, 0, none⟩) (zV al.out a.out (by decide)) (fun _ hk => hk.2) (.int .i64 X)) (fun _ hk => hk.2) (.int .i64 aa)) (fun _ hk => hk.2) (.int .i64 ac)) (fun _ hk => hk.2) (.slice U A.length M)) (fun _ h_ => h_.1))) (zU aw) hb); replace j := mA (Zbd (g := aH) (o := .cells #[.int .i64 aj, .slice aA ad.length aB] 24 (0, 0)) (by (with_reducible repeat (first | refine Zad ?_ _ | refine Zaa ?_ | refine Zab ?_ _)); refine Zao ?_ ah.out _; (with_reducible repeat (first | refine Zad ?_ _ | refine Zaa ?_ | refine Zab ?_ _)); refine Zao ?_ ah.out _; (with_reducible repeat (first | refine Zad ?_ _ | refine Zaa ?_ | refine Zab ?_ _)); refine Zao ?_ ah.out _; (with_reducible repeat (first | refine Zad ?_ _ | refine Zaa ?_ | refine Zab ?_ _)); refine Zao ?_ ah.out _; exact bP j.out) hb); replace a := mA (Zbd (g := x) (o := .cells #[.int .i64 X, .int .i64 aa, .int .i64 ac, .slice U A.length M] 39 (0, 0)) (by (with_reducible repeat (first | refine Zad ?_ _ | refine Zaa ?_ | refine Zab ?_ _)); refine Zau (cs := #[.int .i64 X, .int .i64 aa, .int .i64 ac, .slice none 0 0]) ?_ 3 _ rfl; (with_reducible repeat (first | refine Zad ?_ _ | refine Zaa ?_ | refine Zab ?_ _)); refine Zau (cs := #[.int .i64 X, .int .i64 aa, .int .i64 0, .slice none 0 0]) ?_ 2 _ rfl; (with_reducible repeat (first | refine Zad ?_ _ | refine Zaa ?_ | refine Zab ?_ _)); refine Zau (cs := #[.int .i64 X, .int .i64 0, .int .i64 0, .slice none 0 0]) ?_ 1 _ rfl; (with_reducible repeat (first | refine Zad ?_ _ | refine Zaa ?_ | refine Zab ?_ _)); refine Zau (cs := #[.int .i64 0, .int .i64 0, .int .i64 0, .slice none 0 0]) ?_ 0 _ rfl; exact bP a.out) hb); replace HB := mA (Zaf (bW) hb); (try clear hb); (try clear hb2); (try clear hk); (try clear hi); (try clear aw)) | ((with_reducible refine Zat (N := 6) rfl ?_); refine boxS (N := 6) (cs := #[.int .i64 0, .slice none 0 0]) (t := 30) ?_; intro Y hg h0 hbox hb; replace al := mA (zK (rP al.out) hb); replace am := mA (zW (sP am.out) hb); replace az := mA (zK (rP az.out) hb); have s := mA (hbox); have gs := geW (w := w) hg; have cg := geW (w := w) hg; replace HB := mA (Zaf (bW) hb); have aN := mA (neB hg j); have aW := mA (neC hg j); replace j := mA (blkB j.out hb); have av := mA (neB hg a); have aD := mA (neC hg a); replace a := mA (blkB a.out hb); clear hb hbox hg; have gu := aW.out; have gv := aN.out; have gw := aD.out; have gx := av.out; obtain ⟨cM, cN⟩ := Zcj s.out; obtain ⟨cO, cQ⟩ := frz2 s.out; obtain ⟨D, B, dw⟩ := zP az.out; subst dw) | ((with_reducible refine Zax (f := 18) rfl ?_); refine Zbi (some 29) Tryd.func18 #[.agg #[.int .i64 an, .slice D P.length B]] ?_; (with_reducible refine (Zb2.calls k an _ _ P G J L y bs _ ?side1 ?side2 A10.out (tabW HTab.out)).mono ?_); (case side1 => refine (zJ (e := 2) (base := w.heap.size) (ok := fun k_ => (True ∧ some k_ ≠ (.slice bh aV.length bi : Value).ownBlock)) (n := P.length) (c := B) ?_).2.2; exact (by (with_reducible repeat (first | apply zC | apply zD | apply zA)); exact (zB (zF (p := ⟨Y, 1, none⟩) (zF (p := ⟨Y, 0, none⟩) (zV az.out s.out (by decide)) (fun _ hk => hk.2) (.int .i64 an)) (fun _ hk => hk.2) (.slice D P.length B)) (fun _ h_ => h_.1)))); (case side2 => exact (zJ az.out).2.1); rintro e h1 ⟨hH, rfl, aw, hb⟩; refine ⟨_, rfl, ?_⟩; obtain ⟨ax, bw⟩ := sizeI hb; have aI := mA (yL (yM (yM (yM (Kd.S_newI aw bw) (zI (by (with_reducible repeat (first | apply zC | apply zD | apply zA)); exact (zB (zF (p := ⟨Y, 1, none⟩) (zF (p := ⟨Y, 0, none⟩) (zV al.out s.out (by decide)) (fun _ hk => hk.2) (.int .i64 an)) (fun _ hk => hk.2) (.slice D P.length B)) (fun _ h_ => h_.1))))) (yS (by (with_reducible repeat (first | apply zL | apply zM | apply zH)); exact (zG (zE (p := ⟨Y, 1, none⟩) (zE (p := ⟨Y, 0, none⟩) (zX am.out s.out (by decide)) (fun _ hk => hk.2) (.int .i64 an)) (fun _ hk => hk.2) (.slice D P.length B)) (fun _ h_ => h_.1))))) (zI (by (with_reducible repeat (first | apply zC | apply zD | apply zA)); exact (zB (zF (p := ⟨Y, 1, none⟩) (zF (p := ⟨Y, 0, none⟩) (zV az.out s.out (by decide)) (fun _ hk => hk.2) (.int .i64 an)) (fun _ hk => hk.2) (.slice D P.length B)) (fun _ h_ => h_.1))))) (Zaj (bW))); replace al := mA (zK (by (with_reducible repeat (first | apply zC | apply zD | apply zA)); exact (zB (zF (p := ⟨Y, 1, none⟩) (zF (p := ⟨Y, 0, none⟩) (zV al.out s.out (by decide)) (fun _ hk => hk.2) (.int .i64 an)) (fun _ hk => hk.2) (.slice D P.length B)) (fun _ h_ => h_.1))) hb); replace am := mA (Kd.S_elderI (by (with_reducible repeat (first | apply zL | apply zM | apply zH)); exact (zG (zE (p := ⟨Y, 1, none⟩) (zE (p := ⟨Y, 0, none⟩) (zX am.out s.out (by decide)) (fun _ hk => hk.2) (.int .i64 an)) (fun _ hk => hk.2) (.slice D P.length B)) (fun _ h_ => h_.1))) (yV aw) hb bw); replace az := mA (zK (by (with_reducible repeat (first | apply zC | apply zD | apply zA)); exact (zB (zF (p := ⟨Y, 1, none⟩) (zF (p := ⟨Y, 0, none⟩) (zV az.out s.out (by decide)) (fun _ hk => hk.2) (.int .i64 an)) (fun _ hk => hk.2) (.slice D P.length B)) (fun _ h_ => h_.1))) hb); replace j := mA (Zbd (g := aH) (o := .cells #[.int .i64 aj, .slice aA ad.length aB] 24 (0, 0)) (by (with_reducible repeat (first | refine Zad ?_ _ | refine Zaa ?_ | refine Zab ?_ _)); refine Zao ?_ aN.out _; (with_reducible repeat (first | refine Zad ?_ _ | refine Zaa ?_ | refine Zab ?_ _)); refine Zao ?_ aN.out _; exact bP j.out) hb); replace a := mA (Zbd (g := x) (o := .cells #[.int .i64 X, .int .i64 aa, .int .i64 ac, .slice U A.length M] 39 (0, 0)) (by (with_reducible repeat (first | refine Zad ?_ _ | refine Zaa ?_ | refine Zab ?_ _)); refine Zao ?_ av.out _; (with_reducible repeat (first | refine Zad ?_ _ | refine Zaa ?_ | refine Zab ?_ _)); refine Zao ?_ av.out _; exact bP a.out) hb); replace s := mA (Zbd (g := Y) (o := .cells #[.int .i64 an, .slice D P.length B] 30 (0, 0)) (by (with_reducible repeat (first | refine Zad ?_ _ | refine Zaa ?_ | refine Zab ?_ _)); refine Zau (cs := #[.int .i64 an, .slice none 0 0]) ?_ 1 _ rfl; (with_reducible repeat (first | refine Zad ?_ _ | refine Zaa ?_ | refine Zab ?_ _)); refine Zau (cs := #[.int .i64 0, .slice none 0 0]) ?_ 0 _ rfl; exact bP s.out) hb); replace HB := mA (Zaf (bW) hb); (try clear hb); (try clear hb2); (try clear hk); (try clear hi); (try clear aw)) | ((with_reducible refine Zat (N := 7) rfl ?_); refine boxS (N := 7) (cs := #[.int .i64 0, .int .i64 0, .int .i64 0, .slice none 0 0]) (t := 39) ?_; intro q hg aP hbox hb; replace al := mA (zK (rP al.out) hb); replace am := mA (zW (sP am.out) hb); replace az := mA (zK (rP az.out) hb); replace aI := mA (zW (sP aI.out) hb); have b := mA (hbox); have gy := geW (w := w) hg; have ch := geW (w := w) hg; replace HB := mA (Zaf (bW) hb); have W := mA (neB hg j); have aF := mA (neC hg j); replace j := mA (blkB j.out hb); have O := mA (neB hg a); have ay := mA (neC hg a); replace a := mA (blkB a.out hb); have T := mA (neB hg s); have aE := mA (neC hg s); replace s := mA (blkB s.out hb); clear hb hbox hg; have gz := aF.out; have gA := W.out; have gB := ay.out; have gC := O.out; have gD := aE.out; have gE := T.out; obtain ⟨cR, cS, cT, cU⟩ := Zbl b.out; obtain ⟨cV, cW, cX, cY⟩ := frz4 b.out; obtain ⟨I, E, dx⟩ := yE aI.out; subst dx))
 (try simp only [Act.put, List.setIfInBounds_toArray, List.set_cons_zero, List.set_cons_succ])
 go_cut [40] (fun v40 wc => ∃ (kq : Nat) (a8 : Bool), v40 = .bool a8 ∧ Zac (Zav.j0 kq bg bs a8 aj ad X aa ac A an P G J L y = some r) ∧ Zac (kq ≤ k) ∧ Zac (Kd.S (Kd.slice 2 (Kd.int .i64)) 22 wc w.heap.size (fun k_ => some k_ ≠ ((.slice D P.length B) : Value).ownBlock ∧ some k_ ≠ ((.slice I y.length E) : Value).ownBlock ∧ aR ≤ k_ ∧ k_ < ax) (.slice U A.length M) A) ∧ Zac (Kd.R (Kd.int .i64) 2 wc w.heap.size (fun _ => True) (.slice D P.length B) P) ∧ Zac (Kd.S (Kd.slice 2 (Kd.int .i64)) 22 wc w.heap.size (fun k_ => some k_ ≠ ((.slice U A.length M) : Value).ownBlock ∧ some k_ ≠ ((.slice D P.length B) : Value).ownBlock ∧ ax ≤ k_) (.slice I y.length E) y) ∧ Zac (wc.heap[aH]? = some (.cells #[.int .i64 aj, (.slice aA ad.length aB)] 24 (0, 0))) ∧ Zac (wc.heap[x]? = some (.cells #[.int .i64 X, .int .i64 aa, .int .i64 ac, (.slice U A.length M)] 39 (0, 0))) ∧ Zac (wc.heap[Y]? = some (.cells #[.int .i64 an, (.slice D P.length B)] 30 (0, 0))) ∧ Zac (wc.heap[q]? = some (.cells #[.int .i64 G, .int .i64 J, .int .i64 L, (.slice I y.length E)] 39 (0, 0))) ∧ Zac (Below w.heap.size w wc))
 case first =>
  have H := bC.out
  clear bC
  obtain ⟨dy, dp, H⟩ := bA H
  by_cases ci : dy = true
  ·subst ci
   rw [if_pos rfl] at H
   have H' := mA H
   clear H
   have gF := aF.out
   have gG := W.out
   have gH := ay.out
   have gI := O.out
   have gJ := aE.out
   have gK := T.out
   have ek : aP.cell? ⟨q, 0, none⟩ = some (.int .i64 0) := bc b 0
   have el : aP.cell? ⟨q, 1, none⟩ = some (.int .i64 0) := bc b 1
   have em : aP.cell? ⟨q, 2, none⟩ = some (.int .i64 0) := bc b 2
   have en : aP.cell? ⟨q, 3, none⟩ = some (.slice none 0 0) := bc b 3
   have eo := Zae b.out 0
   have ep := Zae b.out 1
   have er := Zae b.out 2
   have es := Zae b.out 3
   have gL := aC.out
   have gM := ah.out
   have gN := av.out
   have gO := aD.out
   have et : aP.cell? ⟨x, 0, none⟩ = some (.int .i64 X) := bc a 0
   have eu : aP.cell? ⟨x, 1, none⟩ = some (.int .i64 aa) := bc a 1
   have ev : aP.cell? ⟨x, 2, none⟩ = some (.int .i64 ac) := bc a 2
   have ew : aP.cell? ⟨x, 3, none⟩ = some (.slice U A.length M) := bc a 3
   have ey := Zae a.out 0
   have ez := Zae a.out 1
   have eA := Zae a.out 2
   have eB := Zae a.out 3
   go_wp2_with (first | ((with_reducible refine Zax (f := 19) rfl ?_); refine Zbi (some 34) Tryd.func19 #[.agg #[.int .i64 G, .int .i64 J, .int .i64 L, .slice I y.length E], .agg #[.int .i64 X, .int .i64 aa, .int .i64 ac, .slice U A.length M]] ?_; (with_reducible refine (Zbv.calls k G J L _ _ y X aa ac _ _ A true _ ?side1 ?side2 ?side3 ?side4 dp.out).mono ?_); (case side1 => refine (yA (e := 22) (base := w.heap.size) (ok := fun k_ => ((((True ∧ ax ≤ k_) ∧ some k_ ≠ (.slice bh aV.length bi : Value).ownBlock) ∧ some k_ ≠ (.slice U A.length M : Value).ownBlock) ∧ some k_ ≠ (.slice D P.length B : Value).ownBlock)) (n := y.length) (c := E) ?_).2.2; exact (by (with_reducible repeat (first | apply zL | apply zM | apply zH)); exact (zG (zE (p := ⟨q, 3, none⟩) (zE (p := ⟨q, 2, none⟩) (zE (p := ⟨q, 1, none⟩) (zE (p := ⟨q, 0, none⟩) (zX aI.out b.out (by decide)) (fun _ hk => hk.2) (.int .i64 G)) (fun _ hk => hk.2) (.int .i64 J)) (fun _ hk => hk.2) (.int .i64 L)) (fun _ hk => hk.2) (.slice I y.length E)) (fun _ h_ => h_.1)))); (case side2 => exact (yA aI.out).2.1); (case side3 => refine (yA (e := 22) (base := w.heap.size) (ok := fun k_ => (((((True ∧ aR ≤ k_) ∧ some k_ ≠ (.slice bh aV.length bi : Value).ownBlock) ∧ some k_ ≠ (.slice D P.length B : Value).ownBlock) ∧ some k_ ≠ (.slice I y.length E : Value).ownBlock) ∧ k_ < ax)) (n := A.length) (c := M) ?_).2.2; exact (by (with_reducible repeat (first | apply zL | apply zM | apply zH)); exact (zG (zE (p := ⟨q, 3, none⟩) (zE (p := ⟨q, 2, none⟩) (zE (p := ⟨q, 1, none⟩) (zE (p := ⟨q, 0, none⟩) (zX am.out b.out (by decide)) (fun _ hk => hk.2) (.int .i64 G)) (fun _ hk => hk.2) (.int .i64 J)) (fun _ hk => hk.2) (.int .i64 L)) (fun _ hk => hk.2) (.slice I y.length E)) (fun _ h_ => h_.1)))); (case side4 => exact (yA am.out).2.1); rintro e h2 ⟨rfl, hb⟩; refine ⟨_, rfl, ?_⟩; replace al := mA (zK (by (with_reducible repeat (first | apply zC | apply zD | apply zA)); exact (zB (zF (p := ⟨q, 3, none⟩) (zF (p := ⟨q, 2, none⟩) (zF (p := ⟨q, 1, none⟩) (zF (p := ⟨q, 0, none⟩) (zV al.out b.out (by decide)) (fun _ hk => hk.2) (.int .i64 G)) (fun _ hk => hk.2) (.int .i64 J)) (fun _ hk => hk.2) (.int .i64 L)) (fun _ hk => hk.2) (.slice I y.length E)) (fun _ h_ => h_.1))) hb); replace am := mA (zW (by (with_reducible repeat (first | apply zL | apply zM | apply zH)); exact (zG (zE (p := ⟨q, 3, none⟩) (zE (p := ⟨q, 2, none⟩) (zE (p := ⟨q, 1, none⟩) (zE (p := ⟨q, 0, none⟩) (zX am.out b.out (by decide)) (fun _ hk => hk.2) (.int .i64 G)) (fun _ hk => hk.2) (.int .i64 J)) (fun _ hk => hk.2) (.int .i64 L)) (fun _ hk => hk.2) (.slice I y.length E)) (fun _ h_ => h_.1))) hb); replace az := mA (zK (by (with_reducible repeat (first | apply zC | apply zD | apply zA)); exact (zB (zF (p := ⟨q, 3, none⟩) (zF (p := ⟨q, 2, none⟩) (zF (p := ⟨q, 1, none⟩) (zF (p := ⟨q, 0, none⟩) (zV az.out b.out (by decide)) (fun _ hk => hk.2) (.int .i64 G)) (fun _ hk => hk.2) (.int .i64 J)) (fun _ hk => hk.2) (.int .i64 L)) (fun _ hk => hk.2) (.slice I y.length E)) (fun _ h_ => h_.1))) hb); replace aI := mA (zW (by (with_reducible repeat (first | apply zL | apply zM | apply zH)); exact (zG (zE (p := ⟨q, 3, none⟩) (zE (p := ⟨q, 2, none⟩) (zE (p := ⟨q, 1, none⟩) (zE (p := ⟨q, 0, none⟩) (zX aI.out b.out (by decide)) (fun _ hk => hk.2) (.int .i64 G)) (fun _ hk => hk.2) (.int .i64 J)) (fun _ hk => hk.2) (.int .i64 L)) (fun _ hk => hk.2) (.slice I y.length E)) (fun _ h_ => h_.1))) hb); replace j := mA (Zbd (g := aH) (o := .cells #[.int .i64 aj, .slice aA ad.length aB] 24 (0, 0)) (by (with_reducible repeat (first | refine Zad ?_ _ | refine Zaa ?_ | refine Zab ?_ _)); refine Zao ?_ W.out _; (with_reducible repeat (first | refine Zad ?_ _ | refine Zaa ?_ | refine Zab ?_ _)); refine Zao ?_ W.out _; (with_reducible repeat (first | refine Zad ?_ _ | refine Zaa ?_ | refine Zab ?_ _)); refine Zao ?_ W.out _; (with_reducible repeat (first | refine Zad ?_ _ | refine Zaa ?_ | refine Zab ?_ _)); refine Zao ?_ W.out _; exact bP j.out) hb); replace a := mA (Zbd (g := x) (o := .cells #[.int .i64 X, .int .i64 aa, .int .i64 ac, .slice U A.length M] 39 (0, 0)) (by (with_reducible repeat (first | refine Zad ?_ _ | refine Zaa ?_ | refine Zab ?_ _)); refine Zao ?_ O.out _; (with_reducible repeat (first | refine Zad ?_ _ | refine Zaa ?_ | refine Zab ?_ _)); refine Zao ?_ O.out _; (with_reducible repeat (first | refine Zad ?_ _ | refine Zaa ?_ | refine Zab ?_ _)); refine Zao ?_ O.out _; (with_reducible repeat (first | refine Zad ?_ _ | refine Zaa ?_ | refine Zab ?_ _)); refine Zao ?_ O.out _; exact bP a.out) hb); replace s := mA (Zbd (g := Y) (o := .cells #[.int .i64 an, .slice D P.length B] 30 (0, 0)) (by (with_reducible repeat (first | refine Zad ?_ _ | refine Zaa ?_ | refine Zab ?_ _)); refine Zao ?_ T.out _; (with_reducible repeat (first | refine Zad ?_ _ | refine Zaa ?_ | refine Zab ?_ _)); refine Zao ?_ T.out _; (with_reducible repeat (first | refine Zad ?_ _ | refine Zaa ?_ | refine Zab ?_ _)); refine Zao ?_ T.out _; (with_reducible repeat (first | refine Zad ?_ _ | refine Zaa ?_ | refine Zab ?_ _)); refine Zao ?_ T.out _; exact bP s.out) hb); replace b := mA (Zbd (g := q) (o := .cells #[.int .i64 G, .int .i64 J, .int .i64 L, .slice I y.length E] 39 (0, 0)) (by (with_reducible repeat (first | refine Zad ?_ _ | refine Zaa ?_ | refine Zab ?_ _)); refine Zau (cs := #[.int .i64 G, .int .i64 J, .int .i64 L, .slice none 0 0]) ?_ 3 _ rfl; (with_reducible repeat (first | refine Zad ?_ _ | refine Zaa ?_ | refine Zab ?_ _)); refine Zau (cs := #[.int .i64 G, .int .i64 J, .int .i64 0, .slice none 0 0]) ?_ 2 _ rfl; (with_reducible repeat (first | refine Zad ?_ _ | refine Zaa ?_ | refine Zab ?_ _)); refine Zau (cs := #[.int .i64 G, .int .i64 0, .int .i64 0, .slice none 0 0]) ?_ 1 _ rfl; (with_reducible repeat (first | refine Zad ?_ _ | refine Zaa ?_ | refine Zab ?_ _)); refine Zau (cs := #[.int .i64 0, .int .i64 0, .int .i64 0, .slice none 0 0]) ?_ 0 _ rfl; exact bP b.out) hb); replace HB := mA (Zaf (bW) hb); (try clear hb); (try clear hb2); (try clear hk); (try clear hi)))
   go_meet
   case rel => exact ⟨_, ((bs != bg)), (eW), H', ⟨by first | omega | exact Nat.le_refl _⟩, ⟨by (with_reducible repeat (first | apply zL | apply zM | apply zH)); exact zG am.out (fun _ hk => ⟨hk.1.1.2, ⟨hk.1.2, ⟨hk.1.1.1.1.2, hk.2⟩⟩⟩)⟩, ⟨by (with_reducible repeat (first | apply zC | apply zD | apply zA)); exact zB az.out (fun _ hk => trivial)⟩, ⟨by (with_reducible repeat (first | apply zL | apply zM | apply zH)); exact zG aI.out (fun _ hk => ⟨hk.1.2, ⟨hk.2, hk.1.1.1.2⟩⟩)⟩, ⟨bP j.out⟩, ⟨bP a.out⟩, ⟨bP s.out⟩, ⟨bP b.out⟩, ⟨bW⟩⟩
  replace ci := Bool.eq_false_iff.mpr ci
  subst ci
  rw [iF] at H
  have H' := mA H
  clear H
  have gP := aF.out
  have gQ := W.out
  have gR := ay.out
  have gS := O.out
  have gT := aE.out
  have gU := T.out
  have eC : aP.cell? ⟨q, 0, none⟩ = some (.int .i64 0) := bc b 0
  have eD : aP.cell? ⟨q, 1, none⟩ = some (.int .i64 0) := bc b 1
  have eE : aP.cell? ⟨q, 2, none⟩ = some (.int .i64 0) := bc b 2
  have eF : aP.cell? ⟨q, 3, none⟩ = some (.slice none 0 0) := bc b 3
  have eG := Zae b.out 0
  have eH := Zae b.out 1
  have eI := Zae b.out 2
  have eJ := Zae b.out 3
  have gV := aC.out
  have gW := ah.out
  have gX := av.out
  have gY := aD.out
  have eK : aP.cell? ⟨x, 0, none⟩ = some (.int .i64 X) := bc a 0
  have eL : aP.cell? ⟨x, 1, none⟩ = some (.int .i64 aa) := bc a 1
  have eM : aP.cell? ⟨x, 2, none⟩ = some (.int .i64 ac) := bc a 2
  have eN : aP.cell? ⟨x, 3, none⟩ = some (.slice U A.length M) := bc a 3
  have eO := Zae a.out 0
  have eP := Zae a.out 1
  have eQ := Zae a.out 2
  have eR := Zae a.out 3
  go_wp2_with (first | ((with_reducible refine Zax (f := 19) rfl ?_); refine Zbi (some 34) Tryd.func19 #[.agg #[.int .i64 G, .int .i64 J, .int .i64 L, .slice I y.length E], .agg #[.int .i64 X, .int .i64 aa, .int .i64 ac, .slice U A.length M]] ?_; (with_reducible refine (Zbv.calls k G J L _ _ y X aa ac _ _ A false _ ?side1 ?side2 ?side3 ?side4 dp.out).mono ?_); (case side1 => refine (yA (e := 22) (base := w.heap.size) (ok := fun k_ => ((((True ∧ ax ≤ k_) ∧ some k_ ≠ (.slice bh aV.length bi : Value).ownBlock) ∧ some k_ ≠ (.slice U A.length M : Value).ownBlock) ∧ some k_ ≠ (.slice D P.length B : Value).ownBlock)) (n := y.length) (c := E) ?_).2.2; exact (by (with_reducible repeat (first | apply zL | apply zM | apply zH)); exact (zG (zE (p := ⟨q, 3, none⟩) (zE (p := ⟨q, 2, none⟩) (zE (p := ⟨q, 1, none⟩) (zE (p := ⟨q, 0, none⟩) (zX aI.out b.out (by decide)) (fun _ hk => hk.2) (.int .i64 G)) (fun _ hk => hk.2) (.int .i64 J)) (fun _ hk => hk.2) (.int .i64 L)) (fun _ hk => hk.2) (.slice I y.length E)) (fun _ h_ => h_.1)))); (case side2 => exact (yA aI.out).2.1); (case side3 => refine (yA (e := 22) (base := w.heap.size) (ok := fun k_ => (((((True ∧ aR ≤ k_) ∧ some k_ ≠ (.slice bh aV.length bi : Value).ownBlock) ∧ some k_ ≠ (.slice D P.length B : Value).ownBlock) ∧ some k_ ≠ (.slice I y.length E : Value).ownBlock) ∧ k_ < ax)) (n := A.length) (c := M) ?_).2.2; exact (by (with_reducible repeat (first | apply zL | apply zM | apply zH)); exact (zG (zE (p := ⟨q, 3, none⟩) (zE (p := ⟨q, 2, none⟩) (zE (p := ⟨q, 1, none⟩) (zE (p := ⟨q, 0, none⟩) (zX am.out b.out (by decide)) (fun _ hk => hk.2) (.int .i64 G)) (fun _ hk => hk.2) (.int .i64 J)) (fun _ hk => hk.2) (.int .i64 L)) (fun _ hk => hk.2) (.slice I y.length E)) (fun _ h_ => h_.1)))); (case side4 => exact (yA am.out).2.1); rintro e h3 ⟨rfl, hb⟩; refine ⟨_, rfl, ?_⟩; replace al := mA (zK (by (with_reducible repeat (first | apply zC | apply zD | apply zA)); exact (zB (zF (p := ⟨q, 3, none⟩) (zF (p := ⟨q, 2, none⟩) (zF (p := ⟨q, 1, none⟩) (zF (p := ⟨q, 0, none⟩) (zV al.out b.out (by decide)) (fun _ hk => hk.2) (.int .i64 G)) (fun _ hk => hk.2) (.int .i64 J)) (fun _ hk => hk.2) (.int .i64 L)) (fun _ hk => hk.2) (.slice I y.length E)) (fun _ h_ => h_.1))) hb); replace am := mA (zW (by (with_reducible repeat (first | apply zL | apply zM | apply zH)); exact (zG (zE (p := ⟨q, 3, none⟩) (zE (p := ⟨q, 2, none⟩) (zE (p := ⟨q, 1, none⟩) (zE (p := ⟨q, 0, none⟩) (zX am.out b.out (by decide)) (fun _ hk => hk.2) (.int .i64 G)) (fun _ hk => hk.2) (.int .i64 J)) (fun _ hk => hk.2) (.int .i64 L)) (fun _ hk => hk.2) (.slice I y.length E)) (fun _ h_ => h_.1))) hb); replace az := mA (zK (by (with_reducible repeat (first | apply zC | apply zD | apply zA)); exact (zB (zF (p := ⟨q, 3, none⟩) (zF (p := ⟨q, 2, none⟩) (zF (p := ⟨q, 1, none⟩) (zF (p := ⟨q, 0, none⟩) (zV az.out b.out (by decide)) (fun _ hk => hk.2) (.int .i64 G)) (fun _ hk => hk.2) (.int .i64 J)) (fun _ hk => hk.2) (.int .i64 L)) (fun _ hk => hk.2) (.slice I y.length E)) (fun _ h_ => h_.1))) hb); replace aI := mA (zW (by (with_reducible repeat (first | apply zL | apply zM | apply zH)); exact (zG (zE (p := ⟨q, 3, none⟩) (zE (p := ⟨q, 2, none⟩) (zE (p := ⟨q, 1, none⟩) (zE (p := ⟨q, 0, none⟩) (zX aI.out b.out (by decide)) (fun _ hk => hk.2) (.int .i64 G)) (fun _ hk => hk.2) (.int .i64 J)) (fun _ hk => hk.2) (.int .i64 L)) (fun _ hk => hk.2) (.slice I y.length E)) (fun _ h_ => h_.1))) hb); replace j := mA (Zbd (g := aH) (o := .cells #[.int .i64 aj, .slice aA ad.length aB] 24 (0, 0)) (by (with_reducible repeat (first | refine Zad ?_ _ | refine Zaa ?_ | refine Zab ?_ _)); refine Zao ?_ W.out _; (with_reducible repeat (first | refine Zad ?_ _ | refine Zaa ?_ | refine Zab ?_ _)); refine Zao ?_ W.out _; (with_reducible repeat (first | refine Zad ?_ _ | refine Zaa ?_ | refine Zab ?_ _)); refine Zao ?_ W.out _; (with_reducible repeat (first | refine Zad ?_ _ | refine Zaa ?_ | refine Zab ?_ _)); refine Zao ?_ W.out _; exact bP j.out) hb); replace a := mA (Zbd (g := x) (o := .cells #[.int .i64 X, .int .i64 aa, .int .i64 ac, .slice U A.length M] 39 (0, 0)) (by (with_reducible repeat (first | refine Zad ?_ _ | refine Zaa ?_ | refine Zab ?_ _)); refine Zao ?_ O.out _; (with_reducible repeat (first | refine Zad ?_ _ | refine Zaa ?_ | refine Zab ?_ _)); refine Zao ?_ O.out _; (with_reducible repeat (first | refine Zad ?_ _ | refine Zaa ?_ | refine Zab ?_ _)); refine Zao ?_ O.out _; (with_reducible repeat (first | refine Zad ?_ _ | refine Zaa ?_ | refine Zab ?_ _)); refine Zao ?_ O.out _; exact bP a.out) hb); replace s := mA (Zbd (g := Y) (o := .cells #[.int .i64 an, .slice D P.length B] 30 (0, 0)) (by (with_reducible repeat (first | refine Zad ?_ _ | refine Zaa ?_ | refine Zab ?_ _)); refine Zao ?_ T.out _; (with_reducible repeat (first | refine Zad ?_ _ | refine Zaa ?_ | refine Zab ?_ _)); refine Zao ?_ T.out _; (with_reducible repeat (first | refine Zad ?_ _ | refine Zaa ?_ | refine Zab ?_ _)); refine Zao ?_ T.out _; (with_reducible repeat (first | refine Zad ?_ _ | refine Zaa ?_ | refine Zab ?_ _)); refine Zao ?_ T.out _; exact bP s.out) hb); replace b := mA (Zbd (g := q) (o := .cells #[.int .i64 G, .int .i64 J, .int .i64 L, .slice I y.length E] 39 (0, 0)) (by (with_reducible repeat (first | refine Zad ?_ _ | refine Zaa ?_ | refine Zab ?_ _)); refine Zau (cs := #[.int .i64 G, .int .i64 J, .int .i64 L, .slice none 0 0]) ?_ 3 _ rfl; (with_reducible repeat (first | refine Zad ?_ _ | refine Zaa ?_ | refine Zab ?_ _)); refine Zau (cs := #[.int .i64 G, .int .i64 J, .int .i64 0, .slice none 0 0]) ?_ 2 _ rfl; (with_reducible repeat (first | refine Zad ?_ _ | refine Zaa ?_ | refine Zab ?_ _)); refine Zau (cs := #[.int .i64 G, .int .i64 0, .int .i64 0, .slice none 0 0]) ?_ 1 _ rfl; (with_reducible repeat (first | refine Zad ?_ _ | refine Zaa ?_ | refine Zab ?_ _)); refine Zau (cs := #[.int .i64 0, .int .i64 0, .int .i64 0, .slice none 0 0]) ?_ 0 _ rfl; exact bP b.out) hb); replace HB := mA (Zaf (bW) hb); (try clear hb); (try clear hb2); (try clear hk); (try clear hi)))
  go_meet
  case rel => exact ⟨_, (true), (eW), H', ⟨by first | omega | exact Nat.le_refl _⟩, ⟨by (with_reducible repeat (first | apply zL | apply zM | apply zH)); exact zG am.out (fun _ hk => ⟨hk.1.1.2, ⟨hk.1.2, ⟨hk.1.1.1.1.2, hk.2⟩⟩⟩)⟩, ⟨by (with_reducible repeat (first | apply zC | apply zD | apply zA)); exact zB az.out (fun _ hk => trivial)⟩, ⟨by (with_reducible repeat (first | apply zL | apply zM | apply zH)); exact zG aI.out (fun _ hk => ⟨hk.1.2, ⟨hk.2, hk.1.1.1.2⟩⟩)⟩, ⟨bP j.out⟩, ⟨bP a.out⟩, ⟨bP s.out⟩, ⟨bP b.out⟩, ⟨bW⟩⟩
 case rest =>
  clear bC db cr ct cw cx cA cB cC cD cI cJ cM cN cR cS cT cU cu cv cy cz cE cF cG cH cK cL cO cQ cV cW cX cY
  obtain ⟨kq, a8, rfl, HA, bl, m, l, d, j, a, s, b, HB⟩ := hcut
  cases kq with
  | zero => exact absurd HA.out (by simp [Zav.j0])
  | succ bj =>
   have H := HA.out
   clear HA
   simp only [Zav.j0] at H
   by_cases cj : a8 = true
   ·subst cj
    rw [if_pos rfl] at H
    exact absurd (oI H) (by rw [HTr_.out]; decide)
   replace cj := Bool.eq_false_iff.mpr cj
   subst cj
   rw [iF] at H
   obtain ⟨⟨bD, bm⟩, A56, H⟩ := bA H
   try dsimp only at H
   obtain ⟨dz, ft, H⟩ := bA H
   by_cases ck : dz = true; rotate_left
   ·replace ck := Bool.eq_false_iff.mpr ck
    subst ck
    rw [iF] at H
    exact absurd (oI H) (by rw [HTr_.out]; decide)
   subst ck
   rw [if_pos rfl] at H
   obtain ⟨⟨dd, aG⟩, A59, H⟩ := bA H
   try dsimp only at H
   have bE := mA H
   clear H
   try go_wp2
   replace m := mA (zH m.out)
   replace l := mA (zA l.out)
   replace d := mA (zH d.out)
   replace j := mA (Zaa j.out)
   replace a := mA (Zaa a.out)
   replace s := mA (Zaa s.out)
   replace b := mA (Zaa b.out)
   replace HB := mA (Za1 HB.out)
   refine Zck (n := 5) (S := fun w' => w'.cell? ⟨Y, 0, none⟩ = some (.int .i64 an) ∧ w'.cell? ⟨Y, 1, none⟩ = some (.slice D P.length B) ∧ w'.cell? ⟨aH, 0, none⟩ = some (.int .i64 aj) ∧ w'.cell? ⟨aH, 1, none⟩ = some (.slice aA ad.length aB)) (ds := []) #[false, false, false, false, false] (by kernel_rfl) rfl rfl ⟨bc s 0, bc s 1, bc j 0, bc j 1⟩ (fun hHeld => ?_)
   generalize wc.drew = w61 at m l d j a s b HB hHeld ⊢
   refine Zbg (i := 0) (N := some 41) (by kernel_rfl) hHeld ?_
   refine Zbg (i := 1) (N := some 42) (by kernel_rfl) hHeld ?_
   refine one_ (i := 2) (N := some 43) #[true, true, true, false, false] rfl rfl (by kernel_rfl) (by decide) (fun K hK => ?_)
   refine goes_ Tryd.func12 (by kernel_rfl) rfl #[.agg #[.int .i64 aj, .slice aA ad.length aB]] (by rfl) rfl rfl (by (try simp only [List.map_toArray, List.map_cons, List.map_nil]); first | done | rfl | (simp only [List.length_drop, List.length_take]; rfl)) ?_
   with_reducible refine (Zb1.calls bj aj _ _ ad bD bm _ ?side1 ?side2 A56.out).mono ?_
   (case side1 => exact cP (zQ a1.out HB.out))
   (case side2 => exact a2.out)
   rintro e h4 ⟨hI, rfl, aw, hb⟩
   refine ⟨_, rfl, ?_⟩
   replace m := mA (yQ (sP m.out) (zU aw) hb)
   replace d := mA (yQ (sP d.out) (zU aw) hb)
   have aM := mA (zS (yC aw (zI (rP l.out))) (Zaj (bW)))
   replace l := mA (zZ (rP l.out) (zU aw) hb)
   replace j := mA (blkB j.out hb)
   replace a := mA (blkB a.out hb)
   replace s := mA (blkB s.out hb)
   replace b := mA (blkB b.out hb)
   replace HB := mA (Zaf (bW) hb)
   (try clear hb)
   (try clear hb2)
   (try clear hk)
   (try clear hi)
   (try clear aw)
   obtain ⟨bF, bG, de⟩ := zP aM.out
   (first | subst de | (injection de with dq fu dr; have fv := dq.symm; have fw := dr.symm; clear dq fu dr; subst fv; subst fw))
   refine hK.out _ _ ⟨bc s 0, bc s 1, bc j 0, bc j 1⟩ (fun hHeld => ?_)
   clear hK K
   refine putS 43 ?_
   refine one_ (i := 3) (N := some 44) #[true, true, true, true, false] rfl rfl (by kernel_rfl) (by decide) (fun K hK => ?_)
   refine goes_ Tryd.func15 (by kernel_rfl) rfl #[.agg #[.int .i64 an, .slice D P.length B], .agg #[.int .i64 bD, .slice bF bm.length bG]] (by rfl) rfl rfl (by (try simp only [List.map_toArray, List.map_cons, List.map_nil]); first | done | rfl | (simp only [List.length_drop, List.length_take]; rfl)) ?_
   with_reducible refine (Zdb.calls bj an _ _ P bD _ _ bm true _ ?side1 ?side2 ?side3 ?side4 ft.out).mono ?_
   (case side1 => exact cP ((zJ l.out).2.2))
   (case side2 => exact (zJ l.out).2.1)
   (case side3 => exact cP ((zJ aM.out).2.2))
   (case side4 => exact (zJ aM.out).2.1)
   rintro e w64 ⟨rfl, hb⟩
   refine ⟨_, rfl, ?_⟩
   replace m := mA (zW (sP m.out) hb)
   replace l := mA (zK (rP l.out) hb)
   replace d := mA (zW (sP d.out) hb)
   replace aM := mA (zK (rP aM.out) hb)
   replace j := mA (blkB j.out hb)
   replace a := mA (blkB a.out hb)
   replace s := mA (blkB s.out hb)
   replace b := mA (blkB b.out hb)
   replace HB := mA (Zaf (bW) hb)
   (try clear hb)
   (try clear hb2)
   (try clear hk)
   (try clear hi)
   refine hK.out _ _ ⟨bc s 0, bc s 1, bc j 0, bc j 1⟩ (fun hHeld => ?_)
   clear hK K
   refine putS 44 ?_
   refine Zas (i := 4) (N := some 45) (by kernel_rfl) ?_
   refine done_ (by kernel_rfl) ?_
   have gZ := aW.out
   have g0 := aN.out
   have g1 := aD.out
   have g2 := av.out
   have g3 := T.out
   have g4 := aE.out
   have cZ : w64.cell? ⟨Y, 0, none⟩ = some (.int .i64 an) := bc s 0
   have c0 : w64.cell? ⟨Y, 1, none⟩ = some (.slice D P.length B) := bc s 1
   have c1 := Zae s.out 0
   have da := Zae s.out 1
   go_upto_region 14 with (first | ((with_reducible refine Zax (f := 20) rfl ?_); refine Zbi (some 48) Tryd.func20 #[.agg #[.int .i64 an, .slice D P.length B], .int .i64 1] ?_; (with_reducible refine (Zc0.calls bj an (fun k_ => some k_ = (.slice D P.length B : Value).ownBlock) (.slice D P.length B) P 1 dd aG w _ ?side1 ?side2 A59.out).mono ?_); (case side1 => repeat (first | (with_reducible first | exact HB.out | apply Zbm | apply Zbr | apply Za1 | refine Za9 ?_ br.out | refine Za9 ?_ cf.out | refine Za9 ?_ cg.out | refine Za9 ?_ ch.out) | exact HB.out)); (case side2 => exact xC rfl l.out); rintro e aQ ⟨rfl, bx, hb, hkp⟩; refine ⟨_, rfl, ?_⟩; replace m := mA (zG (ok' := fun k_ => some k_ ≠ (.slice D P.length B : Value).ownBlock ∧ some k_ ≠ (.slice I y.length E : Value).ownBlock ∧ some k_ ≠ (.slice bF bm.length bG : Value).ownBlock ∧ aR ≤ k_ ∧ k_ < ax) (Kd.S_keptB (m.out) hkp (fun k_ hk_ hs_ => (hk_.1.1) hs_)) (fun k_ hk_ => ⟨hk_.1.1.1, hk_.1.1.2.1, hk_.1.2, hk_.1.1.2.2.1, hk_.1.1.2.2.2⟩)); replace d := mA (zG (ok' := fun k_ => some k_ ≠ (.slice U A.length M : Value).ownBlock ∧ some k_ ≠ (.slice D P.length B : Value).ownBlock ∧ some k_ ≠ (.slice bF bm.length bG : Value).ownBlock ∧ ax ≤ k_) (Kd.S_keptB (d.out) hkp (fun k_ hk_ hs_ => (hk_.1.2.1) hs_)) (fun k_ hk_ => ⟨hk_.1.1.1, hk_.1.1.2.1, hk_.1.2, hk_.1.1.2.2⟩)); replace j := mA (blk_kept (bP j.out) hkp (fun hs_ => (fun e_ => (zN l.out j.out (by decide)) e_) hs_)); replace a := mA (blk_kept (bP a.out) hkp (fun hs_ => (fun e_ => (zN l.out a.out (by decide)) e_) hs_)); replace s := mA (blk_kept (bP s.out) hkp (fun hs_ => (fun e_ => (zN l.out s.out (by decide)) e_) hs_)); replace b := mA (blk_kept (bP b.out) hkp (fun hs_ => (fun e_ => (zN l.out b.out (by decide)) e_) hs_)); replace l := mA (Kd.R_reok rfl bx (fun k_ e_ => l.out.1 k_ e_)); replace aM := mA (zB (ok' := fun k_ => some k_ ≠ (.slice D P.length B : Value).ownBlock) (Kd.R_keptB (aM.out) hkp (fun k_ hk_ hs_ => (hk_.2) hs_)) (fun k_ hk_ => hk_.1.2)); replace HB := mA (hb); (try clear hb); (try clear hkp); (try clear bx)))
   (try simp only [Act.put, List.setIfInBounds_toArray, List.set_cons_zero, List.set_cons_succ])
   go_cut [61] (fun v61 wc => ∃ (kq : Nat) (a9 : Bool), v61 = .bool a9 ∧ Zac (Zav.j1 kq bg a9 aj ad X aa ac A G J L y = some r) ∧ Zac (kq ≤ bj) ∧ Zac (Kd.S (Kd.slice 2 (Kd.int .i64)) 22 wc w.heap.size (fun k_ => some k_ ≠ ((.slice D P.length B) : Value).ownBlock ∧ some k_ ≠ ((.slice I y.length E) : Value).ownBlock ∧ aR ≤ k_ ∧ k_ < ax) (.slice U A.length M) A) ∧ Zac (Kd.R (Kd.int .i64) 2 wc w.heap.size (fun _ => True) (.slice D P.length B) aG) ∧ Zac (Kd.S (Kd.slice 2 (Kd.int .i64)) 22 wc w.heap.size (fun k_ => some k_ ≠ ((.slice U A.length M) : Value).ownBlock ∧ some k_ ≠ ((.slice D P.length B) : Value).ownBlock ∧ ax ≤ k_) (.slice I y.length E) y) ∧ Zac (wc.heap[aH]? = some (.cells #[.int .i64 aj, (.slice aA ad.length aB)] 24 (0, 0))) ∧ Zac (wc.heap[x]? = some (.cells #[.int .i64 X, .int .i64 aa, .int .i64 ac, (.slice U A.length M)] 39 (0, 0))) ∧ Zac (wc.heap[Y]? = some (.cells #[.int .i64 an, (.slice D P.length B)] 30 (0, 0))) ∧ Zac (wc.heap[q]? = some (.cells #[.int .i64 G, .int .i64 J, .int .i64 L, (.slice I y.length E)] 39 (0, 0))) ∧ Zac (Below w.heap.size w wc))
   case first =>
    have H := bE.out
    clear bE
    by_cases bp : dd < 0
    ·rw [if_pos bp] at H
     have ba := dT bp
     clear bp
     (first | rw [ba] | (simp only [Zcq, i32_w]; rw [ba]) | skip)
     have H' := mA H
     clear H
     go_wp2
     go_meet
     case rel => exact ⟨_, (true), (eW), H', ⟨by have := bl.out; first | omega | exact Nat.le_refl _⟩, ⟨by (with_reducible repeat (first | apply zL | apply zM | apply zH)); exact zG m.out (fun _ hk => ⟨hk.1, ⟨hk.2.1, ⟨hk.2.2.2.1, hk.2.2.2.2⟩⟩⟩)⟩, ⟨by (with_reducible repeat (first | apply zC | apply zD | apply zA)); exact zB l.out (fun _ hk => trivial)⟩, ⟨by (with_reducible repeat (first | apply zL | apply zM | apply zH)); exact zG d.out (fun _ hk => ⟨hk.1, ⟨hk.2.1, hk.2.2.2⟩⟩)⟩, ⟨bP j.out⟩, ⟨bP a.out⟩, ⟨bP s.out⟩, ⟨bP b.out⟩, ⟨bW⟩⟩
    rw [if_neg bp] at H
    have ba := dF bp
    clear bp
    (first | rw [ba] | (simp only [Zcq, i32_w]; rw [ba]) | skip)
    obtain ⟨dA, dt, H⟩ := bA H
    by_cases cm : dA = true
    ·subst cm
     rw [if_pos rfl] at H
     have H' := mA H
     clear H
     have g5 := aF.out
     have g6 := W.out
     have g7 := ay.out
     have g8 := O.out
     have g9 := aE.out
     have ha := T.out
     have eS : aQ.cell? ⟨q, 0, none⟩ = some (.int .i64 G) := bc b 0
     have eT : aQ.cell? ⟨q, 1, none⟩ = some (.int .i64 J) := bc b 1
     have eU : aQ.cell? ⟨q, 2, none⟩ = some (.int .i64 L) := bc b 2
     have eV : aQ.cell? ⟨q, 3, none⟩ = some (.slice I y.length E) := bc b 3
     have eX := Zae b.out 0
     have eY := Zae b.out 1
     have eZ := Zae b.out 2
     have e0 := Zae b.out 3
     have hc := aC.out
     have hd := ah.out
     have he := av.out
     have hf := aD.out
     have e1 : aQ.cell? ⟨x, 0, none⟩ = some (.int .i64 X) := bc a 0
     have e2 : aQ.cell? ⟨x, 1, none⟩ = some (.int .i64 aa) := bc a 1
     have e3 : aQ.cell? ⟨x, 2, none⟩ = some (.int .i64 ac) := bc a 2
     have e4 : aQ.cell? ⟨x, 3, none⟩ = some (.slice U A.length M) := bc a 3
     have e5 := Zae a.out 0
     have e6 := Zae a.out 1
     have e7 := Zae a.out 2
     have e8 := Zae a.out 3
     go_wp2_with (first | (go_at_call 19; (with_reducible refine (Zbv.calls bj G J L _ _ y X aa ac _ _ A true _ ?side1 ?side2 ?side3 ?side4 dt.out).mono ?_); (case side1 => exact cP ((yA d.out).2.2)); (case side2 => exact (yA d.out).2.1); (case side3 => exact cP ((yA m.out).2.2)); (case side4 => exact (yA m.out).2.1); rintro e h5 ⟨rfl, hb⟩; replace m := mA (zW (sP m.out) hb); replace l := mA (zK (rP l.out) hb); replace d := mA (zW (sP d.out) hb); replace aM := mA (zK (rP aM.out) hb); replace j := mA (blkB j.out hb); replace a := mA (blkB a.out hb); replace s := mA (blkB s.out hb); replace b := mA (blkB b.out hb); replace HB := mA (Zaf (bW) hb); (try clear hb); (try clear hb2); (try clear hk); (try clear hi)))
     go_meet
     case rel => exact ⟨_, ((bs != bg)), (eW), H', ⟨by have := bl.out; first | omega | exact Nat.le_refl _⟩, ⟨by (with_reducible repeat (first | apply zL | apply zM | apply zH)); exact zG m.out (fun _ hk => ⟨hk.1, ⟨hk.2.1, ⟨hk.2.2.2.1, hk.2.2.2.2⟩⟩⟩)⟩, ⟨by (with_reducible repeat (first | apply zC | apply zD | apply zA)); exact zB l.out (fun _ hk => trivial)⟩, ⟨by (with_reducible repeat (first | apply zL | apply zM | apply zH)); exact zG d.out (fun _ hk => ⟨hk.1, ⟨hk.2.1, hk.2.2.2⟩⟩)⟩, ⟨bP j.out⟩, ⟨bP a.out⟩, ⟨bP s.out⟩, ⟨bP b.out⟩, ⟨bW⟩⟩
    replace cm := Bool.eq_false_iff.mpr cm
    subst cm
    rw [iF] at H
    have H' := mA H
    clear H
    have hh := aF.out
    have hj := W.out
    have hl := ay.out
    have hm := O.out
    have hn := aE.out
    have ho := T.out
    have e9 : aQ.cell? ⟨q, 0, none⟩ = some (.int .i64 G) := bc b 0
    have fa : aQ.cell? ⟨q, 1, none⟩ = some (.int .i64 J) := bc b 1
    have fb : aQ.cell? ⟨q, 2, none⟩ = some (.int .i64 L) := bc b 2
    have fc : aQ.cell? ⟨q, 3, none⟩ = some (.slice I y.length E) := bc b 3
    have fd := Zae b.out 0
    have fe := Zae b.out 1
    have ff := Zae b.out 2
    have fg := Zae b.out 3
    have hp := aC.out
    have hq := ah.out
    have hr := av.out
    have hs := aD.out
    have fh : aQ.cell? ⟨x, 0, none⟩ = some (.int .i64 X) := bc a 0
    have fi : aQ.cell? ⟨x, 1, none⟩ = some (.int .i64 aa) := bc a 1
    have fj : aQ.cell? ⟨x, 2, none⟩ = some (.int .i64 ac) := bc a 2
    have fk : aQ.cell? ⟨x, 3, none⟩ = some (.slice U A.length M) := bc a 3
    have fl := Zae a.out 0
    have fm := Zae a.out 1
    have fn := Zae a.out 2
    have fo := Zae a.out 3
    go_wp2_with (first | (go_at_call 19; (with_reducible refine (Zbv.calls bj G J L _ _ y X aa ac _ _ A false _ ?side1 ?side2 ?side3 ?side4 dt.out).mono ?_); (case side1 => exact cP ((yA d.out).2.2)); (case side2 => exact (yA d.out).2.1); (case side3 => exact cP ((yA m.out).2.2)); (case side4 => exact (yA m.out).2.1); rintro e h6 ⟨rfl, hb⟩; replace m := mA (zW (sP m.out) hb); replace l := mA (zK (rP l.out) hb); replace d := mA (zW (sP d.out) hb); replace aM := mA (zK (rP aM.out) hb); replace j := mA (blkB j.out hb); replace a := mA (blkB a.out hb); replace s := mA (blkB s.out hb); replace b := mA (blkB b.out hb); replace HB := mA (Zaf (bW) hb); (try clear hb); (try clear hb2); (try clear hk); (try clear hi)))
    go_meet
    case rel => exact ⟨_, (true), (eW), H', ⟨by have := bl.out; first | omega | exact Nat.le_refl _⟩, ⟨by (with_reducible repeat (first | apply zL | apply zM | apply zH)); exact zG m.out (fun _ hk => ⟨hk.1, ⟨hk.2.1, ⟨hk.2.2.2.1, hk.2.2.2.2⟩⟩⟩)⟩, ⟨by (with_reducible repeat (first | apply zC | apply zD | apply zA)); exact zB l.out (fun _ hk => trivial)⟩, ⟨by (with_reducible repeat (first | apply zL | apply zM | apply zH)); exact zG d.out (fun _ hk => ⟨hk.1, ⟨hk.2.1, hk.2.2.2⟩⟩)⟩, ⟨bP j.out⟩, ⟨bP a.out⟩, ⟨bP s.out⟩, ⟨bP b.out⟩, ⟨bW⟩⟩
   case rest =>
    clear bE cZ c0 c1 da
    obtain ⟨kq, a9, rfl, HA, df, m, l, d, j, a, s, b, HB⟩ := hcut
    have v := (zJ l.out).1
    rw [v] at l
    (try simp only [v])
    (try simp only [v] at j)
    (try simp only [v] at a)
    (try simp only [v] at s)
    (try simp only [v] at b)
    (try simp only [v] at m)
    (try simp only [v] at d)
    cases kq with
    | zero => exact absurd HA.out (by simp [Zav.j1])
    | succ a3 =>
     have H := HA.out
     clear HA
     simp only [Zav.j1] at H
     by_cases cn : a9 = true
     ·subst cn
      rw [if_pos rfl] at H
      exact absurd (oI H) (by rw [HTr_.out]; decide)
     replace cn := Bool.eq_false_iff.mpr cn
     subst cn
     rw [iF] at H
     obtain ⟨⟨aO, aT⟩, A90, H⟩ := bA H
     try dsimp only at H
     obtain ⟨a4, fx, H⟩ := bA H
     by_cases bq : a4 < 0
     ·rw [if_pos bq] at H
      have co := dT bq
      clear bq
      exact absurd (oI H) (by rw [HTr_.out]; decide)
     rw [if_neg bq] at H
     have co := dF bq
     clear bq
     by_cases bn : a4 = aO; rotate_left
     ·rw [if_neg bn] at H
      have cp : (a4 == aO) = false := beq_eq_false_iff_ne.mpr bn
      have cq : (a4 != aO) = true := bne_iff_ne.mpr bn
      exact absurd (oI H) (by rw [HTr_.out]; decide)
     rw [if_pos bn] at H
     have cp : (a4 == aO) = true := beq_iff_eq.mpr bn
     have cq : (a4 != aO) = false := bne_eq_false_iff_eq.mpr bn
     clear bn
     obtain ⟨⟨bH, a5⟩, A94, H⟩ := bA H
     try dsimp only at H
     obtain ⟨⟨ak, ao, au, af, dg⟩, A95, H⟩ := bA H
     try dsimp only at H
     have bI := mA H
     clear H
     have ht := aF.out
     have hu := W.out
     have hv := ay.out
     have hw := O.out
     have hx := aE.out
     have hy := T.out
     have bJ : wc.cell? ⟨q, 0, none⟩ = some (.int .i64 G) := bc b 0
     have bK : wc.cell? ⟨q, 1, none⟩ = some (.int .i64 J) := bc b 1
     have bL : wc.cell? ⟨q, 2, none⟩ = some (.int .i64 L) := bc b 2
     have bM : wc.cell? ⟨q, 3, none⟩ = some (.slice I y.length E) := bc b 3
     have bN := Zae b.out 0
     have bO := Zae b.out 1
     have bQ := Zae b.out 2
     have bR := Zae b.out 3
     go_upto_region 25 with (first | ((with_reducible refine Zax (f := 21) rfl ?_); refine Zbi (some 64) Tryd.func21 #[.agg #[.int .i64 G, .int .i64 J, .int .i64 L, .slice I y.length E], .int .i64 1] ?_; (with_reducible refine (Zc6.calls a3 G J L (fun k_ => (((((some k_ ≠ (.slice U A.length M : Value).ownBlock ∧ (some k_ ≠ (.slice D aG.length B : Value).ownBlock ∧ ax ≤ k_)) ∧ k_ ≠ aH) ∧ k_ ≠ x) ∧ k_ ≠ Y) ∧ k_ ≠ q)) (.slice I y.length E) y 1 aO aT w _ ?side1 ?side2 A90.out).mono ?_); (case side1 => repeat (first | (with_reducible first | exact HB.out | apply Zbm | apply Zbr | apply Za1 | refine Za9 ?_ br.out | refine Za9 ?_ cf.out | refine Za9 ?_ cg.out | refine Za9 ?_ ch.out) | exact HB.out)); (case side2 => exact sP (zX (zX (zX (zX d.out j.out (by decide)) a.out (by decide)) s.out (by decide)) b.out (by decide))); rintro e hJ ⟨rfl, bx, hb, hkp⟩; refine ⟨_, rfl, ?_⟩; replace m := mA (zG (ok' := fun k_ => some k_ ≠ (.slice D aG.length B : Value).ownBlock ∧ some k_ ≠ (.slice I y.length E : Value).ownBlock ∧ aR ≤ k_ ∧ k_ < ax) (Kd.S_kept (sP m.out) hkp (fun k_ hk_ hs_ => by exact ltge (hk_.2.2.2) (hs_.1.1.1.1.2.2))) (fun k_ h_ => by exact ⟨h_.1, ⟨h_.2.1, ⟨h_.2.2.1, h_.2.2.2⟩⟩⟩)); replace l := mA (Kd.R_reok (ok := fun k_ => True) rfl (Kd.R_keptB (xC rfl (rP l.out)) hkp (fun k_ hk_ hs_ => (hs_.1.1.1.1.2.1) hk_)) (fun k_ e_ => trivial)); replace d := mA (zG (ok' := fun k_ => some k_ ≠ (.slice U A.length M : Value).ownBlock ∧ some k_ ≠ (.slice D aG.length B : Value).ownBlock ∧ ax ≤ k_) bx (fun k_ h_ => ⟨h_.1.1.1.1.1, ⟨h_.1.1.1.1.2.1, h_.1.1.1.1.2.2⟩⟩)); replace j := mA (blk_kept (bP j.out) hkp (fun hs_ => (hs_.1.1.1.2) rfl)); replace a := mA (blk_kept (bP a.out) hkp (fun hs_ => (hs_.1.1.2) rfl)); replace s := mA (blk_kept (bP s.out) hkp (fun hs_ => (hs_.1.2) rfl)); replace b := mA (blk_kept (bP b.out) hkp (fun hs_ => (hs_.2) rfl)); replace HB := mA (hb); (try clear hb); (try clear hkp); (try clear bx); obtain ⟨bS, bT, bU, bV⟩ := Zbl b.out; obtain ⟨bX, bY, bZ, b0⟩ := frz4 b.out) | ((with_reducible refine Zax (f := 22) rfl ?_); refine goesL_ (some 67) rfl rfl Tryd.func22 (by kernel_rfl) rfl #[.agg #[.int .i64 G, .int .i64 J, .int .i64 L, .slice I aT.length E], .int .i64 1] rfl (by (try simp only [List.map_toArray, List.map_cons, List.map_nil]); first | done | (rw [show aT.length = y.length from (yA d.out).1.symm] <;> rfl) | rfl | (simp only [List.length_drop, List.length_take]; rfl)) ?_; (with_reducible refine (Zca.calls a3 G J L _ _ aT 1 a4 _ ?side1 ?side2 fx.out).mono ?_); (case side1 => exact cP ((yA d.out).2.2)); (case side2 => rw [show aT.length = y.length from (yA d.out).1.symm]; exact (yA d.out).2.1); rintro e hL ⟨rfl, hb⟩; refine ⟨_, rfl, ?_⟩; replace m := mA (zW (sP m.out) hb); replace l := mA (zK (rP l.out) hb); replace d := mA (zW (sP d.out) hb); replace j := mA (blkB j.out hb); replace a := mA (blkB a.out hb); replace s := mA (blkB s.out hb); replace b := mA (blkB b.out hb); replace HB := mA (Zaf (bW) hb); (try clear hb); (try clear hb2); (try clear hk); (try clear hi); have fy := ah.out; have fz := aC.out; have fA := aN.out; have fB := aW.out; obtain ⟨b1, b2⟩ := Zcj j.out; obtain ⟨b3, b4⟩ := frz2 j.out) | ((with_reducible refine Zax (f := 12) rfl ?_); refine Zbi (some 75) Tryd.func12 #[.agg #[.int .i64 aj, .slice aA ad.length aB]] ?_; (with_reducible refine (Zb1.calls a3 aj _ _ ad bH a5 _ ?side1 ?side2 A94.out).mono ?_); (case side1 => exact cP (zQ a1.out HB.out)); (case side2 => exact a2.out); rintro e hM ⟨hN, rfl, aw, hb⟩; refine ⟨_, rfl, ?_⟩; replace m := mA (yQ (sP m.out) (zU aw) hb); replace d := mA (yQ (sP d.out) (zU aw) hb); have aL := mA (zS (yC aw (zI (rP l.out))) (Zaj (bW))); replace l := mA (zZ (rP l.out) (zU aw) hb); replace j := mA (blkB j.out hb); replace a := mA (blkB a.out hb); replace s := mA (blkB s.out hb); replace b := mA (blkB b.out hb); replace HB := mA (Zaf (bW) hb); (try clear hb); (try clear hb2); (try clear hk); (try clear hi); (try clear aw); obtain ⟨bb, bd, dm⟩ := zP aL.out; subst dm) | ((with_reducible refine Zax (f := 18) rfl ?_); refine Zbi (some 76) Tryd.func18 #[.agg #[.int .i64 bH, .slice bb a5.length bd]] ?_; (with_reducible refine (Zb2.calls a3 bH _ _ a5 ak ao au af dg _ ?side1 ?side2 A95.out (tabW HTab.out)).mono ?_); (case side1 => exact cP ((zJ aL.out).2.2)); (case side2 => exact (zJ aL.out).2.1); rintro e hO ⟨hP, rfl, aw, hb⟩; refine ⟨_, rfl, ?_⟩; obtain ⟨aU, bo⟩ := sizeI hb; have aJ := mA (yL (yM (yM (yM (yM (Kd.S_newI aw bo) (yS (sP m.out))) (zI (rP l.out))) (yS (sP d.out))) (zI (rP aL.out))) (Zaj (bW))); replace m := mA (Kd.S_elderI (sP m.out) (yV aw) hb bo); replace l := mA (zK (rP l.out) hb); replace d := mA (Kd.S_elderI (sP d.out) (yV aw) hb bo); replace aL := mA (zK (rP aL.out) hb); replace j := mA (blkB j.out hb); replace a := mA (blkB a.out hb); replace s := mA (blkB s.out hb); replace b := mA (blkB b.out hb); replace HB := mA (Zaf (bW) hb); (try clear hb); (try clear hb2); (try clear hk); (try clear hi); (try clear aw)) | ((with_reducible refine Zat (N := 12) rfl ?_); refine boxS (N := 12) (cs := #[.int .i64 0, .int .i64 0, .int .i64 0, .slice none 0 0]) (t := 39) ?_; intro u hg aK hbox hb; replace m := mA (zW (sP m.out) hb); replace l := mA (zK (rP l.out) hb); replace d := mA (zW (sP d.out) hb); replace aL := mA (zK (rP aL.out) hb); replace aJ := mA (zW (sP aJ.out) hb); have z := mA (hbox); have hz := geW (w := w) hg; have hA := geW (w := w) hg; replace HB := mA (Zaf (bW) hb); have ap := mA (neB hg j); have aX := mA (neC hg j); replace j := mA (blkB j.out hb); have aq := mA (neB hg a); have aY := mA (neC hg a); replace a := mA (blkB a.out hb); have ar := mA (neB hg s); have aZ := mA (neC hg s); replace s := mA (blkB s.out hb); have ai := mA (neB hg b); have aS := mA (neC hg b); replace b := mA (blkB b.out hb); clear hb hbox hg; have fC := aX.out; have fD := ap.out; have fE := aY.out; have fF := aq.out; have fG := aZ.out; have fH := ar.out; have fI := aS.out; have fJ := ai.out; obtain ⟨b5, b6, b7, b8⟩ := Zbl z.out; obtain ⟨b9, ca, cb, cc⟩ := frz4 z.out; obtain ⟨ae, ab, dn⟩ := yE aJ.out; subst dn))
     (try simp only [Act.put, List.setIfInBounds_toArray, List.set_cons_zero, List.set_cons_succ])
     go_cut [87] (fun v87 wc => ∃ (kq : Nat) (bf : Bool), v87 = .bool bf ∧ Zac (Zav.j2 kq aO bf G J L aT = some r) ∧ Zac (kq ≤ a3) ∧ Zac (Kd.S (Kd.slice 2 (Kd.int .i64)) 22 wc w.heap.size (fun k_ => some k_ ≠ ((.slice D aG.length B) : Value).ownBlock ∧ some k_ ≠ ((.slice I y.length E) : Value).ownBlock ∧ some k_ ≠ ((.slice ae af.length ab) : Value).ownBlock ∧ aR ≤ k_ ∧ k_ < ax ∧ k_ < aU) (.slice U A.length M) A) ∧ Zac (Kd.R (Kd.int .i64) 2 wc w.heap.size (fun _ => True) (.slice D aG.length B) aG) ∧ Zac (Kd.S (Kd.slice 2 (Kd.int .i64)) 22 wc w.heap.size (fun k_ => some k_ ≠ ((.slice U A.length M) : Value).ownBlock ∧ some k_ ≠ ((.slice D aG.length B) : Value).ownBlock ∧ some k_ ≠ ((.slice ae af.length ab) : Value).ownBlock ∧ ax ≤ k_ ∧ k_ < aU) (.slice I y.length E) aT) ∧ Zac (Kd.S (Kd.slice 2 (Kd.int .i64)) 22 wc w.heap.size (fun k_ => some k_ ≠ ((.slice U A.length M) : Value).ownBlock ∧ some k_ ≠ ((.slice D aG.length B) : Value).ownBlock ∧ some k_ ≠ ((.slice I y.length E) : Value).ownBlock ∧ aU ≤ k_) (.slice ae af.length ab) af) ∧ Zac (wc.heap[aH]? = some (.cells #[.int .i64 aj, (.slice aA ad.length aB)] 24 (0, 0))) ∧ Zac (wc.heap[x]? = some (.cells #[.int .i64 X, .int .i64 aa, .int .i64 ac, (.slice U A.length M)] 39 (0, 0))) ∧ Zac (wc.heap[Y]? = some (.cells #[.int .i64 an, (.slice D aG.length B)] 30 (0, 0))) ∧ Zac (wc.heap[q]? = some (.cells #[.int .i64 G, .int .i64 J, .int .i64 L, (.slice I y.length E)] 39 (0, 0))) ∧ Zac (wc.heap[u]? = some (.cells #[.int .i64 ak, .int .i64 ao, .int .i64 au, (.slice ae af.length ab)] 39 (0, 0))) ∧ Zac (Below w.heap.size w wc))
     case first =>
      have H := bI.out
      clear bI
      obtain ⟨dB, dh, H⟩ := bA H
      by_cases bu : dB = true
      ·subst bu
       rw [if_pos rfl] at H
       have H' := mA H
       clear H
       have fK := aX.out
       have fL := ap.out
       have fM := aY.out
       have fN := aq.out
       have fO := aZ.out
       have fP := ar.out
       have fQ := aS.out
       have fR := ai.out
       have dC : aK.cell? ⟨u, 0, none⟩ = some (.int .i64 0) := bc z 0
       have dD : aK.cell? ⟨u, 1, none⟩ = some (.int .i64 0) := bc z 1
       have dE : aK.cell? ⟨u, 2, none⟩ = some (.int .i64 0) := bc z 2
       have dG : aK.cell? ⟨u, 3, none⟩ = some (.slice none 0 0) := bc z 3
       have dH := Zae z.out 0
       have dI := Zae z.out 1
       have dJ := Zae z.out 2
       have dK := Zae z.out 3
       have fS := aC.out
       have fT := ah.out
       have fU := av.out
       have fV := aD.out
       have fW := O.out
       have fX := ay.out
       have dL : aK.cell? ⟨x, 0, none⟩ = some (.int .i64 X) := bc a 0
       have dM : aK.cell? ⟨x, 1, none⟩ = some (.int .i64 aa) := bc a 1
       have dN : aK.cell? ⟨x, 2, none⟩ = some (.int .i64 ac) := bc a 2
       have dO : aK.cell? ⟨x, 3, none⟩ = some (.slice U A.length M) := bc a 3
       have dP := Zae a.out 0
       have dQ := Zae a.out 1
       have dR := Zae a.out 2
       have dS := Zae a.out 3
       go_wp2_with (first | ((with_reducible refine Zax (f := 19) rfl ?_); refine Zbi (some 81) Tryd.func19 #[.agg #[.int .i64 ak, .int .i64 ao, .int .i64 au, .slice ae af.length ab], .agg #[.int .i64 X, .int .i64 aa, .int .i64 ac, .slice U A.length M]] ?_; (with_reducible refine (Zbv.calls a3 ak ao au _ _ af X aa ac _ _ A true _ ?side1 ?side2 ?side3 ?side4 dh.out).mono ?_); (case side1 => refine (yA (e := 22) (base := w.heap.size) (ok := fun k_ => (((((True ∧ aU ≤ k_) ∧ some k_ ≠ (.slice U A.length M : Value).ownBlock) ∧ some k_ ≠ (.slice D aG.length B : Value).ownBlock) ∧ some k_ ≠ (.slice I y.length E : Value).ownBlock) ∧ some k_ ≠ (.slice bb a5.length bd : Value).ownBlock)) (n := af.length) (c := ab) ?_).2.2; exact (by (with_reducible repeat (first | apply zL | apply zM | apply zH)); exact (zG (zE (p := ⟨u, 3, none⟩) (zE (p := ⟨u, 2, none⟩) (zE (p := ⟨u, 1, none⟩) (zE (p := ⟨u, 0, none⟩) (zX aJ.out z.out (by decide)) (fun _ hk => hk.2) (.int .i64 ak)) (fun _ hk => hk.2) (.int .i64 ao)) (fun _ hk => hk.2) (.int .i64 au)) (fun _ hk => hk.2) (.slice ae af.length ab)) (fun _ h_ => h_.1)))); (case side2 => exact (yA aJ.out).2.1); (case side3 => refine (yA (e := 22) (base := w.heap.size) (ok := fun k_ => ((((some k_ ≠ (.slice D aG.length B : Value).ownBlock ∧ (some k_ ≠ (.slice I y.length E : Value).ownBlock ∧ (aR ≤ k_ ∧ k_ < ax))) ∧ some k_ ≠ (.slice bb a5.length bd : Value).ownBlock) ∧ some k_ ≠ (.slice ae af.length ab : Value).ownBlock) ∧ k_ < aU)) (n := A.length) (c := M) ?_).2.2; exact (by (with_reducible repeat (first | apply zL | apply zM | apply zH)); exact (zG (zE (p := ⟨u, 3, none⟩) (zE (p := ⟨u, 2, none⟩) (zE (p := ⟨u, 1, none⟩) (zE (p := ⟨u, 0, none⟩) (zX m.out z.out (by decide)) (fun _ hk => hk.2) (.int .i64 ak)) (fun _ hk => hk.2) (.int .i64 ao)) (fun _ hk => hk.2) (.int .i64 au)) (fun _ hk => hk.2) (.slice ae af.length ab)) (fun _ h_ => h_.1)))); (case side4 => exact (yA m.out).2.1); rintro e hQ ⟨rfl, hb⟩; refine ⟨_, rfl, ?_⟩; replace m := mA (zW (by (with_reducible repeat (first | apply zL | apply zM | apply zH)); exact (zG (zE (p := ⟨u, 3, none⟩) (zE (p := ⟨u, 2, none⟩) (zE (p := ⟨u, 1, none⟩) (zE (p := ⟨u, 0, none⟩) (zX m.out z.out (by decide)) (fun _ hk => hk.2) (.int .i64 ak)) (fun _ hk => hk.2) (.int .i64 ao)) (fun _ hk => hk.2) (.int .i64 au)) (fun _ hk => hk.2) (.slice ae af.length ab)) (fun _ h_ => h_.1))) hb); replace l := mA (zK (by (with_reducible repeat (first | apply zC | apply zD | apply zA)); exact (zB (zF (p := ⟨u, 3, none⟩) (zF (p := ⟨u, 2, none⟩) (zF (p := ⟨u, 1, none⟩) (zF (p := ⟨u, 0, none⟩) (zV l.out z.out (by decide)) (fun _ hk => hk.2) (.int .i64 ak)) (fun _ hk => hk.2) (.int .i64 ao)) (fun _ hk => hk.2) (.int .i64 au)) (fun _ hk => hk.2) (.slice ae af.length ab)) (fun _ h_ => h_.1))) hb); replace d := mA (zW (by (with_reducible repeat (first | apply zL | apply zM | apply zH)); exact (zG (zE (p := ⟨u, 3, none⟩) (zE (p := ⟨u, 2, none⟩) (zE (p := ⟨u, 1, none⟩) (zE (p := ⟨u, 0, none⟩) (zX d.out z.out (by decide)) (fun _ hk => hk.2) (.int .i64 ak)) (fun _ hk => hk.2) (.int .i64 ao)) (fun _ hk => hk.2) (.int .i64 au)) (fun _ hk => hk.2) (.slice ae af.length ab)) (fun _ h_ => h_.1))) hb); replace aL := mA (zK (by (with_reducible repeat (first | apply zC | apply zD | apply zA)); exact (zB (zF (p := ⟨u, 3, none⟩) (zF (p := ⟨u, 2, none⟩) (zF (p := ⟨u, 1, none⟩) (zF (p := ⟨u, 0, none⟩) (zV aL.out z.out (by decide)) (fun _ hk => hk.2) (.int .i64 ak)) (fun _ hk => hk.2) (.int .i64 ao)) (fun _ hk => hk.2) (.int .i64 au)) (fun _ hk => hk.2) (.slice ae af.length ab)) (fun _ h_ => h_.1))) hb); replace aJ := mA (zW (by (with_reducible repeat (first | apply zL | apply zM | apply zH)); exact (zG (zE (p := ⟨u, 3, none⟩) (zE (p := ⟨u, 2, none⟩) (zE (p := ⟨u, 1, none⟩) (zE (p := ⟨u, 0, none⟩) (zX aJ.out z.out (by decide)) (fun _ hk => hk.2) (.int .i64 ak)) (fun _ hk => hk.2) (.int .i64 ao)) (fun _ hk => hk.2) (.int .i64 au)) (fun _ hk => hk.2) (.slice ae af.length ab)) (fun _ h_ => h_.1))) hb); replace j := mA (Zbd (g := aH) (o := .cells #[.int .i64 aj, .slice aA ad.length aB] 24 (0, 0)) (by (with_reducible repeat (first | refine Zad ?_ _ | refine Zaa ?_ | refine Zab ?_ _)); refine Zao ?_ ap.out _; (with_reducible repeat (first | refine Zad ?_ _ | refine Zaa ?_ | refine Zab ?_ _)); refine Zao ?_ ap.out _; (with_reducible repeat (first | refine Zad ?_ _ | refine Zaa ?_ | refine Zab ?_ _)); refine Zao ?_ ap.out _; (with_reducible repeat (first | refine Zad ?_ _ | refine Zaa ?_ | refine Zab ?_ _)); refine Zao ?_ ap.out _; exact bP j.out) hb); replace a := mA (Zbd (g := x) (o := .cells #[.int .i64 X, .int .i64 aa, .int .i64 ac, .slice U A.length M] 39 (0, 0)) (by (with_reducible repeat (first | refine Zad ?_ _ | refine Zaa ?_ | refine Zab ?_ _)); refine Zao ?_ aq.out _; (with_reducible repeat (first | refine Zad ?_ _ | refine Zaa ?_ | refine Zab ?_ _)); refine Zao ?_ aq.out _; (with_reducible repeat (first | refine Zad ?_ _ | refine Zaa ?_ | refine Zab ?_ _)); refine Zao ?_ aq.out _; (with_reducible repeat (first | refine Zad ?_ _ | refine Zaa ?_ | refine Zab ?_ _)); refine Zao ?_ aq.out _; exact bP a.out) hb); replace s := mA (Zbd (g := Y) (o := .cells #[.int .i64 an, .slice D aG.length B] 30 (0, 0)) (by (with_reducible repeat (first | refine Zad ?_ _ | refine Zaa ?_ | refine Zab ?_ _)); refine Zao ?_ ar.out _; (with_reducible repeat (first | refine Zad ?_ _ | refine Zaa ?_ | refine Zab ?_ _)); refine Zao ?_ ar.out _; (with_reducible repeat (first | refine Zad ?_ _ | refine Zaa ?_ | refine Zab ?_ _)); refine Zao ?_ ar.out _; (with_reducible repeat (first | refine Zad ?_ _ | refine Zaa ?_ | refine Zab ?_ _)); refine Zao ?_ ar.out _; exact bP s.out) hb); replace b := mA (Zbd (g := q) (o := .cells #[.int .i64 G, .int .i64 J, .int .i64 L, .slice I y.length E] 39 (0, 0)) (by (with_reducible repeat (first | refine Zad ?_ _ | refine Zaa ?_ | refine Zab ?_ _)); refine Zao ?_ ai.out _; (with_reducible repeat (first | refine Zad ?_ _ | refine Zaa ?_ | refine Zab ?_ _)); refine Zao ?_ ai.out _; (with_reducible repeat (first | refine Zad ?_ _ | refine Zaa ?_ | refine Zab ?_ _)); refine Zao ?_ ai.out _; (with_reducible repeat (first | refine Zad ?_ _ | refine Zaa ?_ | refine Zab ?_ _)); refine Zao ?_ ai.out _; exact bP b.out) hb); replace z := mA (Zbd (g := u) (o := .cells #[.int .i64 ak, .int .i64 ao, .int .i64 au, .slice ae af.length ab] 39 (0, 0)) (by (with_reducible repeat (first | refine Zad ?_ _ | refine Zaa ?_ | refine Zab ?_ _)); refine Zau (cs := #[.int .i64 ak, .int .i64 ao, .int .i64 au, .slice none 0 0]) ?_ 3 _ rfl; (with_reducible repeat (first | refine Zad ?_ _ | refine Zaa ?_ | refine Zab ?_ _)); refine Zau (cs := #[.int .i64 ak, .int .i64 ao, .int .i64 0, .slice none 0 0]) ?_ 2 _ rfl; (with_reducible repeat (first | refine Zad ?_ _ | refine Zaa ?_ | refine Zab ?_ _)); refine Zau (cs := #[.int .i64 ak, .int .i64 0, .int .i64 0, .slice none 0 0]) ?_ 1 _ rfl; (with_reducible repeat (first | refine Zad ?_ _ | refine Zaa ?_ | refine Zab ?_ _)); refine Zau (cs := #[.int .i64 0, .int .i64 0, .int .i64 0, .slice none 0 0]) ?_ 0 _ rfl; exact bP z.out) hb); replace HB := mA (Zaf (bW) hb); (try clear hb); (try clear hb2); (try clear hk); (try clear hi)))
       go_meet
       case rel => exact ⟨_, ((dg != bg)), (eW), H', ⟨by have := bl.out; have := df.out; first | omega | exact Nat.le_refl _⟩, ⟨by (try simp only [v]); (with_reducible repeat (first | apply zL | apply zM | apply zH)); exact zG m.out (fun _ hk => ⟨hk.1.1.1.1, ⟨hk.1.1.1.2.1, ⟨hk.1.2, ⟨hk.1.1.1.2.2.1, ⟨hk.1.1.1.2.2.2, hk.2⟩⟩⟩⟩⟩)⟩, ⟨by (try simp only [v]); (with_reducible repeat (first | apply zC | apply zD | apply zA)); exact zB l.out (fun _ hk => trivial)⟩, ⟨by (try simp only [v]); (with_reducible repeat (first | apply zL | apply zM | apply zH)); exact zG d.out (fun _ hk => ⟨hk.1.1.1.1, ⟨hk.1.1.1.2.1, ⟨hk.1.2, ⟨hk.1.1.1.2.2, hk.2⟩⟩⟩⟩)⟩, ⟨by (try simp only [v]); (with_reducible repeat (first | apply zL | apply zM | apply zH)); exact zG aJ.out (fun _ hk => ⟨hk.1.1.1.2, ⟨hk.1.1.2, ⟨hk.1.2, hk.1.1.1.1.2⟩⟩⟩)⟩, ⟨by (try simp only [v]); exact bP j.out⟩, ⟨by (try simp only [v]); exact bP a.out⟩, ⟨by (try simp only [v]); exact bP s.out⟩, ⟨by (try simp only [v]); exact bP b.out⟩, ⟨by (try simp only [v]); exact bP z.out⟩, ⟨bW⟩⟩
      replace bu := Bool.eq_false_iff.mpr bu
      subst bu
      rw [iF] at H
      have H' := mA H
      clear H
      have fY := aX.out
      have fZ := ap.out
      have f0 := aY.out
      have f3 := aq.out
      have f4 := aZ.out
      have f5 := ar.out
      have f6 := aS.out
      have f7 := ai.out
      have dU : aK.cell? ⟨u, 0, none⟩ = some (.int .i64 0) := bc z 0
      have dV : aK.cell? ⟨u, 1, none⟩ = some (.int .i64 0) := bc z 1
      have dW : aK.cell? ⟨u, 2, none⟩ = some (.int .i64 0) := bc z 2
      have dX : aK.cell? ⟨u, 3, none⟩ = some (.slice none 0 0) := bc z 3
      have dY := Zae z.out 0
      have dZ := Zae z.out 1
      have d0 := Zae z.out 2
      have d1 := Zae z.out 3
      have f8 := aC.out
      have f9 := ah.out
      have ga := av.out
      have gb := aD.out
      have gc := O.out
      have gf := ay.out
      have d2 : aK.cell? ⟨x, 0, none⟩ = some (.int .i64 X) := bc a 0
      have d3 : aK.cell? ⟨x, 1, none⟩ = some (.int .i64 aa) := bc a 1
      have d4 : aK.cell? ⟨x, 2, none⟩ = some (.int .i64 ac) := bc a 2
      have d5 : aK.cell? ⟨x, 3, none⟩ = some (.slice U A.length M) := bc a 3
      have d6 := Zae a.out 0
      have d7 := Zae a.out 1
      have d8 := Zae a.out 2
      have d9 := Zae a.out 3
      go_wp2_with (first | ((with_reducible refine Zax (f := 19) rfl ?_); refine Zbi (some 81) Tryd.func19 #[.agg #[.int .i64 ak, .int .i64 ao, .int .i64 au, .slice ae af.length ab], .agg #[.int .i64 X, .int .i64 aa, .int .i64 ac, .slice U A.length M]] ?_; (with_reducible refine (Zbv.calls a3 ak ao au _ _ af X aa ac _ _ A false _ ?side1 ?side2 ?side3 ?side4 dh.out).mono ?_); (case side1 => refine (yA (e := 22) (base := w.heap.size) (ok := fun k_ => (((((True ∧ aU ≤ k_) ∧ some k_ ≠ (.slice U A.length M : Value).ownBlock) ∧ some k_ ≠ (.slice D aG.length B : Value).ownBlock) ∧ some k_ ≠ (.slice I y.length E : Value).ownBlock) ∧ some k_ ≠ (.slice bb a5.length bd : Value).ownBlock)) (n := af.length) (c := ab) ?_).2.2; exact (by (with_reducible repeat (first | apply zL | apply zM | apply zH)); exact (zG (zE (p := ⟨u, 3, none⟩) (zE (p := ⟨u, 2, none⟩) (zE (p := ⟨u, 1, none⟩) (zE (p := ⟨u, 0, none⟩) (zX aJ.out z.out (by decide)) (fun _ hk => hk.2) (.int .i64 ak)) (fun _ hk => hk.2) (.int .i64 ao)) (fun _ hk => hk.2) (.int .i64 au)) (fun _ hk => hk.2) (.slice ae af.length ab)) (fun _ h_ => h_.1)))); (case side2 => exact (yA aJ.out).2.1); (case side3 => refine (yA (e := 22) (base := w.heap.size) (ok := fun k_ => ((((some k_ ≠ (.slice D aG.length B : Value).ownBlock ∧ (some k_ ≠ (.slice I y.length E : Value).ownBlock ∧ (aR ≤ k_ ∧ k_ < ax))) ∧ some k_ ≠ (.slice bb a5.length bd : Value).ownBlock) ∧ some k_ ≠ (.slice ae af.length ab : Value).ownBlock) ∧ k_ < aU)) (n := A.length) (c := M) ?_).2.2; exact (by (with_reducible repeat (first | apply zL | apply zM | apply zH)); exact (zG (zE (p := ⟨u, 3, none⟩) (zE (p := ⟨u, 2, none⟩) (zE (p := ⟨u, 1, none⟩) (zE (p := ⟨u, 0, none⟩) (zX m.out z.out (by decide)) (fun _ hk => hk.2) (.int .i64 ak)) (fun _ hk => hk.2) (.int .i64 ao)) (fun _ hk => hk.2) (.int .i64 au)) (fun _ hk => hk.2) (.slice ae af.length ab)) (fun _ h_ => h_.1)))); (case side4 => exact (yA m.out).2.1); rintro e hR ⟨rfl, hb⟩; refine ⟨_, rfl, ?_⟩; replace m := mA (zW (by (with_reducible repeat (first | apply zL | apply zM | apply zH)); exact (zG (zE (p := ⟨u, 3, none⟩) (zE (p := ⟨u, 2, none⟩) (zE (p := ⟨u, 1, none⟩) (zE (p := ⟨u, 0, none⟩) (zX m.out z.out (by decide)) (fun _ hk => hk.2) (.int .i64 ak)) (fun _ hk => hk.2) (.int .i64 ao)) (fun _ hk => hk.2) (.int .i64 au)) (fun _ hk => hk.2) (.slice ae af.length ab)) (fun _ h_ => h_.1))) hb); replace l := mA (zK (by (with_reducible repeat (first | apply zC | apply zD | apply zA)); exact (zB (zF (p := ⟨u, 3, none⟩) (zF (p := ⟨u, 2, none⟩) (zF (p := ⟨u, 1, none⟩) (zF (p := ⟨u, 0, none⟩) (zV l.out z.out (by decide)) (fun _ hk => hk.2) (.int .i64 ak)) (fun _ hk => hk.2) (.int .i64 ao)) (fun _ hk => hk.2) (.int .i64 au)) (fun _ hk => hk.2) (.slice ae af.length ab)) (fun _ h_ => h_.1))) hb); replace d := mA (zW (by (with_reducible repeat (first | apply zL | apply zM | apply zH)); exact (zG (zE (p := ⟨u, 3, none⟩) (zE (p := ⟨u, 2, none⟩) (zE (p := ⟨u, 1, none⟩) (zE (p := ⟨u, 0, none⟩) (zX d.out z.out (by decide)) (fun _ hk => hk.2) (.int .i64 ak)) (fun _ hk => hk.2) (.int .i64 ao)) (fun _ hk => hk.2) (.int .i64 au)) (fun _ hk => hk.2) (.slice ae af.length ab)) (fun _ h_ => h_.1))) hb); replace aL := mA (zK (by (with_reducible repeat (first | apply zC | apply zD | apply zA)); exact (zB (zF (p := ⟨u, 3, none⟩) (zF (p := ⟨u, 2, none⟩) (zF (p := ⟨u, 1, none⟩) (zF (p := ⟨u, 0, none⟩) (zV aL.out z.out (by decide)) (fun _ hk => hk.2) (.int .i64 ak)) (fun _ hk => hk.2) (.int .i64 ao)) (fun _ hk => hk.2) (.int .i64 au)) (fun _ hk => hk.2) (.slice ae af.length ab)) (fun _ h_ => h_.1))) hb); replace aJ := mA (zW (by (with_reducible repeat (first | apply zL | apply zM | apply zH)); exact (zG (zE (p := ⟨u, 3, none⟩) (zE (p := ⟨u, 2, none⟩) (zE (p := ⟨u, 1, none⟩) (zE (p := ⟨u, 0, none⟩) (zX aJ.out z.out (by decide)) (fun _ hk => hk.2) (.int .i64 ak)) (fun _ hk => hk.2) (.int .i64 ao)) (fun _ hk => hk.2) (.int .i64 au)) (fun _ hk => hk.2) (.slice ae af.length ab)) (fun _ h_ => h_.1))) hb); replace j := mA (Zbd (g := aH) (o := .cells #[.int .i64 aj, .slice aA ad.length aB] 24 (0, 0)) (by (with_reducible repeat (first | refine Zad ?_ _ | refine Zaa ?_ | refine Zab ?_ _)); refine Zao ?_ ap.out _; (with_reducible repeat (first | refine Zad ?_ _ | refine Zaa ?_ | refine Zab ?_ _)); refine Zao ?_ ap.out _; (with_reducible repeat (first | refine Zad ?_ _ | refine Zaa ?_ | refine Zab ?_ _)); refine Zao ?_ ap.out _; (with_reducible repeat (first | refine Zad ?_ _ | refine Zaa ?_ | refine Zab ?_ _)); refine Zao ?_ ap.out _; exact bP j.out) hb); replace a := mA (Zbd (g := x) (o := .cells #[.int .i64 X, .int .i64 aa, .int .i64 ac, .slice U A.length M] 39 (0, 0)) (by (with_reducible repeat (first | refine Zad ?_ _ | refine Zaa ?_ | refine Zab ?_ _)); refine Zao ?_ aq.out _; (with_reducible repeat (first | refine Zad ?_ _ | refine Zaa ?_ | refine Zab ?_ _)); refine Zao ?_ aq.out _; (with_reducible repeat (first | refine Zad ?_ _ | refine Zaa ?_ | refine Zab ?_ _)); refine Zao ?_ aq.out _; (with_reducible repeat (first | refine Zad ?_ _ | refine Zaa ?_ | refine Zab ?_ _)); refine Zao ?_ aq.out _; exact bP a.out) hb); replace s := mA (Zbd (g := Y) (o := .cells #[.int .i64 an, .slice D aG.length B] 30 (0, 0)) (by (with_reducible repeat (first | refine Zad ?_ _ | refine Zaa ?_ | refine Zab ?_ _)); refine Zao ?_ ar.out _; (with_reducible repeat (first | refine Zad ?_ _ | refine Zaa ?_ | refine Zab ?_ _)); refine Zao ?_ ar.out _; (with_reducible repeat (first | refine Zad ?_ _ | refine Zaa ?_ | refine Zab ?_ _)); refine Zao ?_ ar.out _; (with_reducible repeat (first | refine Zad ?_ _ | refine Zaa ?_ | refine Zab ?_ _)); refine Zao ?_ ar.out _; exact bP s.out) hb); replace b := mA (Zbd (g := q) (o := .cells #[.int .i64 G, .int .i64 J, .int .i64 L, .slice I y.length E] 39 (0, 0)) (by (with_reducible repeat (first | refine Zad ?_ _ | refine Zaa ?_ | refine Zab ?_ _)); refine Zao ?_ ai.out _; (with_reducible repeat (first | refine Zad ?_ _ | refine Zaa ?_ | refine Zab ?_ _)); refine Zao ?_ ai.out _; (with_reducible repeat (first | refine Zad ?_ _ | refine Zaa ?_ | refine Zab ?_ _)); refine Zao ?_ ai.out _; (with_reducible repeat (first | refine Zad ?_ _ | refine Zaa ?_ | refine Zab ?_ _)); refine Zao ?_ ai.out _; exact bP b.out) hb); replace z := mA (Zbd (g := u) (o := .cells #[.int .i64 ak, .int .i64 ao, .int .i64 au, .slice ae af.length ab] 39 (0, 0)) (by (with_reducible repeat (first | refine Zad ?_ _ | refine Zaa ?_ | refine Zab ?_ _)); refine Zau (cs := #[.int .i64 ak, .int .i64 ao, .int .i64 au, .slice none 0 0]) ?_ 3 _ rfl; (with_reducible repeat (first | refine Zad ?_ _ | refine Zaa ?_ | refine Zab ?_ _)); refine Zau (cs := #[.int .i64 ak, .int .i64 ao, .int .i64 0, .slice none 0 0]) ?_ 2 _ rfl; (with_reducible repeat (first | refine Zad ?_ _ | refine Zaa ?_ | refine Zab ?_ _)); refine Zau (cs := #[.int .i64 ak, .int .i64 0, .int .i64 0, .slice none 0 0]) ?_ 1 _ rfl; (with_reducible repeat (first | refine Zad ?_ _ | refine Zaa ?_ | refine Zab ?_ _)); refine Zau (cs := #[.int .i64 0, .int .i64 0, .int .i64 0, .slice none 0 0]) ?_ 0 _ rfl; exact bP z.out) hb); replace HB := mA (Zaf (bW) hb); (try clear hb); (try clear hb2); (try clear hk); (try clear hi)))
      go_meet
      case rel => exact ⟨_, (true), (eW), H', ⟨by have := bl.out; have := df.out; first | omega | exact Nat.le_refl _⟩, ⟨by (try simp only [v]); (with_reducible repeat (first | apply zL | apply zM | apply zH)); exact zG m.out (fun _ hk => ⟨hk.1.1.1.1, ⟨hk.1.1.1.2.1, ⟨hk.1.2, ⟨hk.1.1.1.2.2.1, ⟨hk.1.1.1.2.2.2, hk.2⟩⟩⟩⟩⟩)⟩, ⟨by (try simp only [v]); (with_reducible repeat (first | apply zC | apply zD | apply zA)); exact zB l.out (fun _ hk => trivial)⟩, ⟨by (try simp only [v]); (with_reducible repeat (first | apply zL | apply zM | apply zH)); exact zG d.out (fun _ hk => ⟨hk.1.1.1.1, ⟨hk.1.1.1.2.1, ⟨hk.1.2, ⟨hk.1.1.1.2.2, hk.2⟩⟩⟩⟩)⟩, ⟨by (try simp only [v]); (with_reducible repeat (first | apply zL | apply zM | apply zH)); exact zG aJ.out (fun _ hk => ⟨hk.1.1.1.2, ⟨hk.1.1.2, ⟨hk.1.2, hk.1.1.1.1.2⟩⟩⟩)⟩, ⟨by (try simp only [v]); exact bP j.out⟩, ⟨by (try simp only [v]); exact bP a.out⟩, ⟨by (try simp only [v]); exact bP s.out⟩, ⟨by (try simp only [v]); exact bP b.out⟩, ⟨by (try simp only [v]); exact bP z.out⟩, ⟨bW⟩⟩
     case rest =>
      clear bI co cp cq bJ bK bL bM bS bT bU bV b1 b2 b5 b6 b7 b8 bN bO bQ bR bX bY bZ b0 b3 b4 b9 ca cb cc
      obtain ⟨kq, bf, rfl, HA, hS, m, l, d, a0, j, a, s, b, z, HB⟩ := hcut
      have ag := (yA d.out).1
      rw [ag] at d
      (try simp only [ag])
      (try simp only [ag] at j)
      (try simp only [ag] at a)
      (try simp only [ag] at s)
      (try simp only [ag] at b)
      (try simp only [ag] at z)
      (try simp only [ag] at m)
      (try simp only [ag] at l)
      (try simp only [ag] at a0)
      cases kq with
      | zero => exact absurd HA.out (by simp [Zav.j2])
      | succ ea =>
       have H := HA.out
       clear HA
       simp only [Zav.j2] at H
       by_cases bv : bf = true
       ·subst bv
        rw [if_pos rfl] at H
        exact absurd (oI H) (by rw [HTr_.out]; decide)
       replace bv := Bool.eq_false_iff.mpr bv
       subst bv
       rw [iF] at H
       obtain ⟨a6, eb, H⟩ := bA H
       by_cases bk : a6 < 0
       ·rw [if_pos bk] at H
        have di := dT bk
        clear bk
        exact absurd (oI H) (by rw [HTr_.out]; decide)
       rw [if_neg bk] at H
       have di := dF bk
       clear bk
       by_cases a7 : a6 = aO; rotate_left
       ·rw [if_neg a7] at H
        have dj : (a6 == aO) = false := beq_eq_false_iff_ne.mpr a7
        have dk : (a6 != aO) = true := bne_iff_ne.mpr a7
        exact absurd (oI H) (by rw [HTr_.out]; decide)
       rw [if_pos a7] at H
       have dj : (a6 == aO) = true := beq_iff_eq.mpr a7
       have dk : (a6 != aO) = false := bne_eq_false_iff_eq.mpr a7
       clear a7
       obtain rfl := oI H
       have gg := aF.out
       have gh := W.out
       have gi := ay.out
       have gj := O.out
       have gk := aE.out
       have gl := T.out
       have gm := ai.out
       have gn := aS.out
       have ec : wc.cell? ⟨q, 0, none⟩ = some (.int .i64 G) := bc b 0
       have ed : wc.cell? ⟨q, 1, none⟩ = some (.int .i64 J) := bc b 1
       have ee : wc.cell? ⟨q, 2, none⟩ = some (.int .i64 L) := bc b 2
       have ef : wc.cell? ⟨q, 3, none⟩ = some (.slice I aT.length E) := bc b 3
       have eg := Zae b.out 0
       have eh := Zae b.out 1
       have ei := Zae b.out 2
       have ej := Zae b.out 3
       go_wp2_with (first | ((with_reducible refine Zax (f := 22) rfl ?_); refine Zbi (some 90) Tryd.func22 #[.agg #[.int .i64 G, .int .i64 J, .int .i64 L, .slice I aT.length E], .int .i64 1] ?_; (with_reducible refine (Zca.calls ea G J L _ _ aT 1 a6 _ ?side1 ?side2 eb.out).mono ?_); (case side1 => exact cP ((yA d.out).2.2)); (case side2 => exact (yA d.out).2.1); rintro e hT ⟨rfl, hb⟩; refine ⟨_, rfl, ?_⟩; replace m := mA (zW (sP m.out) hb); replace l := mA (zK (rP l.out) hb); replace d := mA (zW (sP d.out) hb); replace a0 := mA (zW (sP a0.out) hb); replace j := mA (blkB j.out hb); replace a := mA (blkB a.out hb); replace s := mA (blkB s.out hb); replace b := mA (blkB b.out hb); replace z := mA (blkB z.out hb); replace HB := mA (Zaf (bW) hb); (try clear hb); (try clear hb2); (try clear hk); (try clear hi)))
       go_ret
       exact ⟨eW, bW⟩
end Go.Proofs.YtjdkedmdeajmgaaDoor.P
end M0
