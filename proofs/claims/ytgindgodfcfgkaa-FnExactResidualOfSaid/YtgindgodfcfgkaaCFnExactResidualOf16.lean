import Derived.Test.YtgindgodfcfgkaaCFnExactResidualOf15
section M0
namespace Go.Proofs.Ytgindgodfcfgkaa.P
open Go.RowKit Go.Proofs.Ytgindgodfcfgkaa.Sh Go.Proofs.YtgindgodfcfgkaaW.PrintWords Go.Proofs.YtgindgodfcfgkaaW.PrintLast Go.Proofs.YtgindgodfcfgkaaW.PrintMore
open Kd
attribute [local go_sem] Zcc Zcd Zck Zcl Zb2 Zb3 Zce Zcb   -- for this text's walks alone
set_option linter.unusedVariables false
set_option linter.unusedSimpArgs false
mutual
def Zat.j0 : Nat → List Int → Int → List Int → Int → Bool → Int → Int → Int → List (List Int) → Int → Int → Int → List (List Int) → Int → Int → Int → List (List Int) → Int → Int → Int → List (List Int) → Option (Bool)
 | 0, _, _, _, _, _, _, _, _, _, _, _, _, _, _, _, _, _, _, _, _, _ => none
 | k + 1, x1, x7, x9, z, A, a, b, c, d, e, g, h, i, p, q, r, s, j, l, m, n => if A = true then (some false) else ((Zbr.f k a b c d).bind fun o => ((Zbj.f k p q r s o.1 o.2.1 o.2.2.1 o.2.2.2).bind fun v => (if v = true then ((Zba.f k x1).bind fun w => ((Zbc.f k x9 w).bind fun x => (if x = true then ((Zcf.f k p q r s 1).bind fun t => ((Zbh.f k x9 t.1).bind fun u => (if u.1 < 0 then (Zat.j1 k x1 x7 true a b c d e g h i j l m n) else ((Zbj.f k j l m n e g h i).bind fun y => (if y = true then (Zat.j1 k x1 x7 (z != x7) a b c d e g h i j l m n) else (Zat.j1 k x1 x7 true a b c d e g h i j l m n)))))) else (some false)))) else (some false))))
def Zat.j1 : Nat → List Int → Int → Bool → Int → Int → Int → List (List Int) → Int → Int → Int → List (List Int) → Int → Int → Int → List (List Int) → Option (Bool)
 | 0, _, _, _, _, _, _, _, _, _, _, _, _, _, _, _ => none
 | k + 1, x1, x7, u, h, i, j, l, m, n, o, p, a, b, c, q => if u = true then (some false) else ((Zcf.f k a b c q 1).bind fun d => ((Zb6.f k a b c d.2 1).bind fun r => (if r < 0 then (some false) else (if r = d.1 then ((Zbr.f k h i j l).bind fun g => ((Zba.f k x1).bind fun s => ((Zci.f k g.1 g.2.1 g.2.2.1 g.2.2.2 s).bind fun e => ((Zbj.f k e.1 e.2.1 e.2.2.1 e.2.2.2.1 m n o p).bind fun t => (if t = true then (Zat.j2 k d.1 (e.2.2.2.2 != x7) a b c d.2) else (Zat.j2 k d.1 true a b c d.2)))))) else (some false)))))
def Zat.j2 : Nat → Int → Bool → Int → Int → Int → List (List Int) → Option (Bool)
 | 0, _, _, _, _, _, _ => none
 | k + 1, h, g, a, b, c, d => if g = true then (some false) else ((Zb6.f k a b c d 1).bind fun e => (if e < 0 then (some false) else (if e = h then (some true) else (some false))))
end
def Zat.f (k : Nat) (e : Int) (g : Int) (h : Int) (i : List (List Int)) (l1 : List Int) : Option (Bool) := if (l1.length : Int) > 1048576 then (some true) else ((Zco.f k e g h i 1048576).bind fun l => (if l < 0 then (some true) else ((Zbr.f k e g h i).bind fun d => ((Zba.f k l1).bind fun m => ((Zc1.f k d.1 d.2.1 d.2.2.1 d.2.2.2 m).bind fun a => ((Zbr.f k e g h i).bind fun c => ((Zba.f k l1).bind fun j => ((Zci.f k c.1 c.2.1 c.2.2.1 c.2.2.2 j).bind fun b => ((Zbj.f k b.1 b.2.1 b.2.2.1 b.2.2.2.1 a.1 a.2.1 a.2.2.1 a.2.2.2.1).bind fun n => (if n = true then (Zat.j0 k l1 a.2.2.2.2 j b.2.2.2.2 (b.2.2.2.2 != a.2.2.2.2) e g h i a.1 a.2.1 a.2.2.1 a.2.2.2.1 c.1 c.2.1 c.2.2.1 c.2.2.2 b.1 b.2.1 b.2.2.1 b.2.2.2.1) else (Zat.j0 k l1 a.2.2.2.2 j b.2.2.2.2 true e g h i a.1 a.2.1 a.2.2.1 a.2.2.2.1 c.1 c.2.1 c.2.2.1 c.2.2.2 b.1 b.2.1 b.2.2.1 b.2.2.2.1)))))))))))
set_option maxHeartbeats 8000000 in
set_option maxRecDepth 100000 in
theorem Zat.calls (k : Nat) (ar : Int) (au : Int) (av : Int) (aM : Option Addr) (aN : Nat) (aj : List (List Int)) (A1 : Option Addr) (c1 : Nat) (l1 : List Int) (r : Bool) (w : World) (dl : Kd.C (Kd.slice 2 (Kd.int .i64)) w aM aj.length aj) (dm : aj.length ≤ aN) (e5 : Kd.C (Kd.int .i64) w A1 l1.length l1) (e6 : l1.length ≤ c1) (h : Zat.f k ar au av aj l1 = some r) (hT_ : r = true) :
  Calls Try.prog 5 #[.agg #[.int .i64 ar, .int .i64 au, .int .i64 av, .slice aM aj.length aN], .slice A1 l1.length c1] w fun e w' => e = .returned (.bool r) ∧ Below w.heap.size w w' := by
 have HTr_ := mA hT_
 clear hT_
 have jH := Try.underlying24
 have jI := Try.underlying26
 have br := mA dl
 have bs := mA dm
 clear dl dm
 have dn := mA e5
 have dp := mA e6
 clear e5 e6
 have HB := mA (Below.refl w.heap.size w)
 unfold Zat.f at h
 have H := h
 clear h
 by_cases c3 : (l1.length : Int) > 1048576
 ·rw [if_pos c3] at H
  have eH : decide (1048576 < (l1.length : Int)) = true := dT c3
  have eI : decide (1048576 < l1.length) = true := decide_eq_true (by omega)
  clear c3
  obtain rfl := oI H
  go_enter Try.func5, Try.ntmps5
  go_wp2_with (first | ((with_reducible refine Zap (N := 2) rfl ?_); refine boxS (N := 2) (cs := #[.int .i64 ar, .int .i64 au, .int .i64 av, .slice aM aj.length aN]) (t := 24) ?_; intro aL hg w4 hbox hb; have j := mA (hbox); have dq := geW (w := w) hg; have bD := geW (w := w) hg; replace HB := mA (Zaf (bW) hb); clear hb hbox hg))
  go_ret
  exact ⟨eW, bW⟩
 rw [if_neg c3] at H
 have eH : decide (1048576 < (l1.length : Int)) = false := dF c3
 have eI : decide (1048576 < l1.length) = false := decide_eq_false (by omega)
 clear c3
 replace H := bE H
 obtain ⟨cr, e7, H⟩ := H
 have A5 := mA e7
 clear e7
 by_cases c6 : cr < 0
 ·rw [if_pos c6] at H
  have eJ := dT c6
  clear c6
  obtain rfl := oI H
  go_enter Try.func5, Try.ntmps5
  go_wp2_with (first | ((with_reducible refine Zap (N := 2) rfl ?_); refine boxS (N := 2) (cs := #[.int .i64 ar, .int .i64 au, .int .i64 av, .slice aM aj.length aN]) (t := 24) ?_; intro aL hg w7 hbox hb; have j := mA (hbox); have dq := geW (w := w) hg; have bD := geW (w := w) hg; replace HB := mA (Zaf (bW) hb); clear hb hbox hg; obtain ⟨hh, hj, hl, hm⟩ := Zau j.out; obtain ⟨hn, ho, hp, hq⟩ := frz4 j.out) | ((with_reducible refine Zar (f := 9) rfl ?_); refine Za2 (some 22) Try.func9 #[.agg #[.int .i64 ar, .int .i64 au, .int .i64 av, .slice aM aj.length aN], .int .i64 1048576] ?_; (with_reducible refine (Zco.calls k ar au av _ _ aj 1048576 cr _ ?side1 ?side2 A5.out).mono ?_); (case side1 => exact cP (zL br.out HB.out)); (case side2 => exact bs.out); rintro e w9 ⟨rfl, hb⟩; refine ⟨_, rfl, ?_⟩; replace j := mA (blkB j.out hb); replace HB := mA (Zaf (bW) hb); (try clear hb); (try clear hb2); (try clear hk); (try clear hi)))
  go_ret
  exact ⟨eW, bW⟩
 rw [if_neg c6] at H
 have eJ := dF c6
 clear c6
 replace H := bE H
 obtain ⟨⟨ct, cu, cv, bu⟩, A100, H⟩ := H
 try dsimp only at H
 have hr := mA A100
 clear A100
 replace H := bE H
 obtain ⟨bv, eK, H⟩ := H
 have hs := mA eK
 clear eK
 replace H := bE H
 obtain ⟨⟨aa, ab, ad, x, bR⟩, A120, H⟩ := H
 try dsimp only at H
 have ht := mA A120
 clear A120
 replace H := bE H
 obtain ⟨⟨aB, aF, aK, M⟩, A130, H⟩ := H
 try dsimp only at H
 have hu := mA A130
 clear A130
 replace H := bE H
 obtain ⟨W, eL, H⟩ := H
 have hv := mA eL
 clear eL
 replace H := bE H
 obtain ⟨⟨L, O, P, v, b4⟩, A150, H⟩ := H
 try dsimp only at H
 have hw := mA A150
 clear A150
 have cw := mA H
 clear H
 go_enter Try.func5, Try.ntmps5
 go_upto_region 11 with (first | ((with_reducible refine Zap (N := 2) rfl ?_); refine boxS (N := 2) (cs := #[.int .i64 ar, .int .i64 au, .int .i64 av, .slice aM aj.length aN]) (t := 24) ?_; intro aL hg j8 hbox hb; have j := mA (hbox); have dq := geW (w := w) hg; have bD := geW (w := w) hg; replace HB := mA (Zaf (bW) hb); clear hb hbox hg; obtain ⟨dB, dC, dD, dE⟩ := Zau j.out; obtain ⟨dG, dH, dI, dJ⟩ := frz4 j.out) | ((with_reducible refine Zar (f := 9) rfl ?_); refine Za2 (some 22) Try.func9 #[.agg #[.int .i64 ar, .int .i64 au, .int .i64 av, .slice aM aj.length aN], .int .i64 1048576] ?_; (with_reducible refine (Zco.calls k ar au av _ _ aj 1048576 cr _ ?side1 ?side2 A5.out).mono ?_); (case side1 => exact cP (zL br.out HB.out)); (case side2 => exact bs.out); rintro e j9 ⟨rfl, hb⟩; refine ⟨_, rfl, ?_⟩; replace j := mA (blkB j.out hb); replace HB := mA (Zaf (bW) hb); (try clear hb); (try clear hb2); (try clear hk); (try clear hi); obtain ⟨dK, dL, dM, dN⟩ := Zau j.out; obtain ⟨dO, dP, dQ, dR⟩ := frz4 j.out) | ((with_reducible refine Zar (f := 11) rfl ?_); refine Za2 (some 27) Try.func11 #[.agg #[.int .i64 ar, .int .i64 au, .int .i64 av, .slice aM aj.length aN]] ?_; (with_reducible refine (Zbr.calls k ar au av _ _ aj ct cu cv bu _ ?side1 ?side2 hr.out).mono ?_); (case side1 => exact cP (zL br.out HB.out)); (case side2 => exact bs.out); rintro e ka ⟨jJ, rfl, T, hb⟩; refine ⟨_, rfl, ?_⟩; obtain ⟨iK, eM⟩ := sizeI hb; have an := mA (yR (Kd.S_newI T eM) (Zan (bW))); replace j := mA (blkB j.out hb); replace HB := mA (Zaf (bW) hb); (try clear hb); (try clear hb2); (try clear hk); (try clear hi); (try clear T)) | ((with_reducible refine Zar (f := 19) rfl ?_); refine Za2 (some 29) Try.func19 #[.slice A1 l1.length c1] ?_; (with_reducible refine (Zba.calls k _ _ l1 bv _ ?side1 ?side2 hs.out).mono ?_); (case side1 => exact cP (zL dn.out HB.out)); (case side2 => exact dp.out); rintro e kb ⟨jK, rfl, T, hb⟩; refine ⟨_, rfl, ?_⟩; replace an := mA (yK (sP an.out) (zT T) hb); have ap := mA (zV T (Zan (bW))); replace j := mA (blkB j.out hb); replace HB := mA (Zaf (bW) hb); (try clear hb); (try clear hb2); (try clear hk); (try clear hi); (try clear T); obtain ⟨bV, bX, fc⟩ := yD an.out; subst fc; obtain ⟨bY, bZ, fd⟩ := zP ap.out; subst fd) | ((with_reducible refine Zar (f := 18) rfl ?_); refine Za2 (some 30) Try.func18 #[.agg #[.int .i64 ct, .int .i64 cu, .int .i64 cv, .slice bV bu.length bX], .slice bY bv.length bZ] ?_; (with_reducible refine (Zc1.calls k ct cu cv _ _ bu _ _ bv aa ab ad x bR _ ?side1 ?side2 ?side3 ?side4 ht.out).mono ?_); (case side1 => exact cP ((zW an.out).2.2)); (case side2 => exact (zW an.out).2.1); (case side3 => exact cP ((zK ap.out).2.2)); (case side4 => exact (zK ap.out).2.1); rintro e kc ⟨jL, rfl, T, hb⟩; refine ⟨_, rfl, ?_⟩; obtain ⟨a8, cc⟩ := sizeI hb; have aq := mA (yR (yI (yI (Kd.S_newI T cc) (yO (sP an.out))) (zN (rP ap.out))) (Zan (bW))); replace an := mA (Kd.S_elderI (sP an.out) (yN T) hb cc); replace ap := mA (zM (rP ap.out) hb); replace j := mA (blkB j.out hb); replace HB := mA (Zaf (bW) hb); (try clear hb); (try clear hb2); (try clear hk); (try clear hi); (try clear T)) | ((with_reducible refine Zap (N := 6) rfl ?_); refine boxS (N := 6) (cs := #[.int .i64 0, .int .i64 0, .int .i64 0, .slice none 0 0]) (t := 26) ?_; intro y hg kd hbox hb; replace an := mA (zS (sP an.out) hb); replace ap := mA (zM (rP ap.out) hb); replace aq := mA (zS (sP aq.out) hb); have a := mA (hbox); have iL := geW (w := w) hg; have b5 := geW (w := w) hg; replace HB := mA (Zaf (bW) hb); have ax := mA (neB hg j); have aU := mA (neC hg j); replace j := mA (blkB j.out hb); clear hb hbox hg; have iM := aU.out; have iN := ax.out; obtain ⟨dS, dU, dV, dW⟩ := Zau a.out; obtain ⟨dX, dY, dZ, d0⟩ := frz4 a.out; obtain ⟨E, D, fe⟩ := yD aq.out; subst fe; obtain ⟨d1, d2, d3, d4⟩ := Zau j.out; obtain ⟨d5, d6, d7, d8⟩ := frz4 j.out) | ((with_reducible refine Zar (f := 11) rfl ?_); refine Za2 (some 34) Try.func11 #[.agg #[.int .i64 ar, .int .i64 au, .int .i64 av, .slice aM aj.length aN]] ?_; (with_reducible refine (Zbr.calls k ar au av _ _ aj aB aF aK M _ ?side1 ?side2 hu.out).mono ?_); (case side1 => exact zL br.out (bW)); (case side2 => exact bs.out); rintro e ke ⟨jM, rfl, T, hb⟩; refine ⟨_, rfl, ?_⟩; obtain ⟨aD, b0⟩ := sizeI hb; have aQ := mA (yR (yI (yI (yI (Kd.S_newI T b0) (yO (by (with_reducible repeat (first | apply zI | apply zJ | apply zG)); exact (zF (zB (p := ⟨y, 3, none⟩) (zB (p := ⟨y, 2, none⟩) (zB (p := ⟨y, 1, none⟩) (zB (p := ⟨y, 0, none⟩) (zR an.out a.out (by decide)) (fun _ hk => hk.2) (.int .i64 aa)) (fun _ hk => hk.2) (.int .i64 ab)) (fun _ hk => hk.2) (.int .i64 ad)) (fun _ hk => hk.2) (.slice E x.length D)) (fun _ h_ => h_.1))))) (zN (by (with_reducible repeat (first | apply zD | apply zE | apply zA)); exact (zC (zH (p := ⟨y, 3, none⟩) (zH (p := ⟨y, 2, none⟩) (zH (p := ⟨y, 1, none⟩) (zH (p := ⟨y, 0, none⟩) (zX ap.out a.out (by decide)) (fun _ hk => hk.2) (.int .i64 aa)) (fun _ hk => hk.2) (.int .i64 ab)) (fun _ hk => hk.2) (.int .i64 ad)) (fun _ hk => hk.2) (.slice E x.length D)) (fun _ h_ => h_.1))))) (yO (by (with_reducible repeat (first | apply zI | apply zJ | apply zG)); exact (zF (zB (p := ⟨y, 3, none⟩) (zB (p := ⟨y, 2, none⟩) (zB (p := ⟨y, 1, none⟩) (zB (p := ⟨y, 0, none⟩) (zR aq.out a.out (by decide)) (fun _ hk => hk.2) (.int .i64 aa)) (fun _ hk => hk.2) (.int .i64 ab)) (fun _ hk => hk.2) (.int .i64 ad)) (fun _ hk => hk.2) (.slice E x.length D)) (fun _ h_ => h_.1))))) (Zan (bW))); replace an := mA (Kd.S_elderI (by (with_reducible repeat (first | apply zI | apply zJ | apply zG)); exact (zF (zB (p := ⟨y, 3, none⟩) (zB (p := ⟨y, 2, none⟩) (zB (p := ⟨y, 1, none⟩) (zB (p := ⟨y, 0, none⟩) (zR an.out a.out (by decide)) (fun _ hk => hk.2) (.int .i64 aa)) (fun _ hk => hk.2) (.int .i64 ab)) (fun _ hk => hk.2) (.int .i64 ad)) (fun _ hk => hk.2) (.slice E x.length D)) (fun _ h_ => h_.1))) (yN T) hb b0); replace ap := mA (zM (by (with_reducible repeat (first | apply zD | apply zE | apply zA)); exact (zC (zH (p := ⟨y, 3, none⟩) (zH (p := ⟨y, 2, none⟩) (zH (p := ⟨y, 1, none⟩) (zH (p := ⟨y, 0, none⟩) (zX ap.out a.out (by decide)) (fun _ hk => hk.2) (.int .i64 aa)) (fun _ hk => hk.2) (.int .i64 ab)) (fun _ hk => hk.2) (.int .i64 ad)) (fun _ hk => hk.2) (.slice E x.length D)) (fun _ h_ => h_.1))) hb); replace aq := mA (Kd.S_elderI (by (with_reducible repeat (first | apply zI | apply zJ | apply zG)); exact (zF (zB (p := ⟨y, 3, none⟩) (zB (p := ⟨y, 2, none⟩) (zB (p := ⟨y, 1, none⟩) (zB (p := ⟨y, 0, none⟩) (zR aq.out a.out (by decide)) (fun _ hk => hk.2) (.int .i64 aa)) (fun _ hk => hk.2) (.int .i64 ab)) (fun _ hk => hk.2) (.int .i64 ad)) (fun _ hk => hk.2) (.slice E x.length D)) (fun _ h_ => h_.1))) (yN T) hb b0); replace j := mA (Za1 (g := aL) (o := .cells #[.int .i64 ar, .int .i64 au, .int .i64 av, .slice aM aj.length aN] 24 (0, 0)) (by (with_reducible repeat (first | refine Zac ?_ _ | refine Zab ?_ | refine Zaa ?_ _)); refine Zak ?_ ax.out _; (with_reducible repeat (first | refine Zac ?_ _ | refine Zab ?_ | refine Zaa ?_ _)); refine Zak ?_ ax.out _; (with_reducible repeat (first | refine Zac ?_ _ | refine Zab ?_ | refine Zaa ?_ _)); refine Zak ?_ ax.out _; (with_reducible repeat (first | refine Zac ?_ _ | refine Zab ?_ | refine Zaa ?_ _)); refine Zak ?_ ax.out _; exact bP j.out) hb); replace a := mA (Za1 (g := y) (o := .cells #[.int .i64 aa, .int .i64 ab, .int .i64 ad, .slice E x.length D] 26 (0, 0)) (by (with_reducible repeat (first | refine Zac ?_ _ | refine Zab ?_ | refine Zaa ?_ _)); refine Zao (cs := #[.int .i64 aa, .int .i64 ab, .int .i64 ad, .slice none 0 0]) ?_ 3 _ rfl; (with_reducible repeat (first | refine Zac ?_ _ | refine Zab ?_ | refine Zaa ?_ _)); refine Zao (cs := #[.int .i64 aa, .int .i64 ab, .int .i64 0, .slice none 0 0]) ?_ 2 _ rfl; (with_reducible repeat (first | refine Zac ?_ _ | refine Zab ?_ | refine Zaa ?_ _)); refine Zao (cs := #[.int .i64 aa, .int .i64 0, .int .i64 0, .slice none 0 0]) ?_ 1 _ rfl; (with_reducible repeat (first | refine Zac ?_ _ | refine Zab ?_ | refine Zaa ?_ _)); refine Zao (cs := #[.int .i64 0, .int .i64 0, .int .i64 0, .slice none 0 0]) ?_ 0 _ rfl; exact bP a.out) hb); replace HB := mA (Zaf (bW) hb); (try clear hb); (try clear hb2); (try clear hk); (try clear hi); (try clear T)) | ((with_reducible refine Zap (N := 8) rfl ?_); refine boxS (N := 8) (cs := #[.int .i64 0, .int .i64 0, .int .i64 0, .slice none 0 0]) (t := 26) ?_; intro U hg kf hbox hb; replace an := mA (zS (sP an.out) hb); replace ap := mA (zM (rP ap.out) hb); replace aq := mA (zS (sP aq.out) hb); replace aQ := mA (zS (sP aQ.out) hb); have s := mA (hbox); have iO := geW (w := w) hg; have b6 := geW (w := w) hg; replace HB := mA (Zaf (bW) hb); have a0 := mA (neB hg j); have bk := mA (neC hg j); replace j := mA (blkB j.out hb); have ay := mA (neB hg a); have aV := mA (neC hg a); replace a := mA (blkB a.out hb); clear hb hbox hg; have iP := bk.out; have iQ := a0.out; have iR := aV.out; have iS := ay.out; obtain ⟨d9, ea, eb, ec⟩ := Zau s.out; obtain ⟨ed, ee, ef, eg⟩ := frz4 s.out; obtain ⟨I, J, ff⟩ := yD aQ.out; subst ff) | ((with_reducible refine Zar (f := 19) rfl ?_); refine Za2 (some 36) Try.func19 #[.slice A1 l1.length c1] ?_; (with_reducible refine (Zba.calls k _ _ l1 W _ ?side1 ?side2 hv.out).mono ?_); (case side1 => exact zL dn.out (bW)); (case side2 => exact dp.out); rintro e kg ⟨jN, rfl, T, hb⟩; refine ⟨_, rfl, ?_⟩; replace an := mA (yK (by (with_reducible repeat (first | apply zI | apply zJ | apply zG)); exact (zF (zB (p := ⟨U, 3, none⟩) (zB (p := ⟨U, 2, none⟩) (zB (p := ⟨U, 1, none⟩) (zB (p := ⟨U, 0, none⟩) (zR an.out s.out (by decide)) (fun _ hk => hk.2) (.int .i64 aB)) (fun _ hk => hk.2) (.int .i64 aF)) (fun _ hk => hk.2) (.int .i64 aK)) (fun _ hk => hk.2) (.slice I M.length J)) (fun _ h_ => h_.1))) (zT T) hb); replace aq := mA (yK (by (with_reducible repeat (first | apply zI | apply zJ | apply zG)); exact (zF (zB (p := ⟨U, 3, none⟩) (zB (p := ⟨U, 2, none⟩) (zB (p := ⟨U, 1, none⟩) (zB (p := ⟨U, 0, none⟩) (zR aq.out s.out (by decide)) (fun _ hk => hk.2) (.int .i64 aB)) (fun _ hk => hk.2) (.int .i64 aF)) (fun _ hk => hk.2) (.int .i64 aK)) (fun _ hk => hk.2) (.slice I M.length J)) (fun _ h_ => h_.1))) (zT T) hb); replace aQ := mA (yK (by (with_reducible repeat (first | apply zI | apply zJ | apply zG)); exact (zF (zB (p := ⟨U, 3, none⟩) (zB (p := ⟨U, 2, none⟩) (zB (p := ⟨U, 1, none⟩) (zB (p := ⟨U, 0, none⟩) (zR aQ.out s.out (by decide)) (fun _ hk => hk.2) (.int .i64 aB)) (fun _ hk => hk.2) (.int .i64 aF)) (fun _ hk => hk.2) (.int .i64 aK)) (fun _ hk => hk.2) (.slice I M.length J)) (fun _ h_ => h_.1))) (zT T) hb); have aY := mA (zV (yA T (zN (by (with_reducible repeat (first | apply zD | apply zE | apply zA)); exact (zC (zH (p := ⟨U, 3, none⟩) (zH (p := ⟨U, 2, none⟩) (zH (p := ⟨U, 1, none⟩) (zH (p := ⟨U, 0, none⟩) (zX ap.out s.out (by decide)) (fun _ hk => hk.2) (.int .i64 aB)) (fun _ hk => hk.2) (.int .i64 aF)) (fun _ hk => hk.2) (.int .i64 aK)) (fun _ hk => hk.2) (.slice I M.length J)) (fun _ h_ => h_.1))))) (Zan (bW))); replace ap := mA (zZ (by (with_reducible repeat (first | apply zD | apply zE | apply zA)); exact (zC (zH (p := ⟨U, 3, none⟩) (zH (p := ⟨U, 2, none⟩) (zH (p := ⟨U, 1, none⟩) (zH (p := ⟨U, 0, none⟩) (zX ap.out s.out (by decide)) (fun _ hk => hk.2) (.int .i64 aB)) (fun _ hk => hk.2) (.int .i64 aF)) (fun _ hk => hk.2) (.int .i64 aK)) (fun _ hk => hk.2) (.slice I M.length J)) (fun _ h_ => h_.1))) (zT T) hb); replace j := mA (Za1 (g := aL) (o := .cells #[.int .i64 ar, .int .i64 au, .int .i64 av, .slice aM aj.length aN] 24 (0, 0)) (by (with_reducible repeat (first | refine Zac ?_ _ | refine Zab ?_ | refine Zaa ?_ _)); refine Zak ?_ a0.out _; (with_reducible repeat (first | refine Zac ?_ _ | refine Zab ?_ | refine Zaa ?_ _)); refine Zak ?_ a0.out _; (with_reducible repeat (first | refine Zac ?_ _ | refine Zab ?_ | refine Zaa ?_ _)); refine Zak ?_ a0.out _; (with_reducible repeat (first | refine Zac ?_ _ | refine Zab ?_ | refine Zaa ?_ _)); refine Zak ?_ a0.out _; exact bP j.out) hb); replace a := mA (Za1 (g := y) (o := .cells #[.int .i64 aa, .int .i64 ab, .int .i64 ad, .slice E x.length D] 26 (0, 0)) (by (with_reducible repeat (first | refine Zac ?_ _ | refine Zab ?_ | refine Zaa ?_ _)); refine Zak ?_ ay.out _; (with_reducible repeat (first | refine Zac ?_ _ | refine Zab ?_ | refine Zaa ?_ _)); refine Zak ?_ ay.out _; (with_reducible repeat (first | refine Zac ?_ _ | refine Zab ?_ | refine Zaa ?_ _)); refine Zak ?_ ay.out _; (with_reducible repeat (first | refine Zac ?_ _ | refine Zab ?_ | refine Zaa ?_ _)); refine Zak ?_ ay.out _; exact bP a.out) hb); replace s := mA (Za1 (g := U) (o := .cells #[.int .i64 aB, .int .i64 aF, .int .i64 aK, .slice I M.length J] 26 (0, 0)) (by (with_reducible repeat (first | refine Zac ?_ _ | refine Zab ?_ | refine Zaa ?_ _)); refine Zao (cs := #[.int .i64 aB, .int .i64 aF, .int .i64 aK, .slice none 0 0]) ?_ 3 _ rfl; (with_reducible repeat (first | refine Zac ?_ _ | refine Zab ?_ | refine Zaa ?_ _)); refine Zao (cs := #[.int .i64 aB, .int .i64 aF, .int .i64 0, .slice none 0 0]) ?_ 2 _ rfl; (with_reducible repeat (first | refine Zac ?_ _ | refine Zab ?_ | refine Zaa ?_ _)); refine Zao (cs := #[.int .i64 aB, .int .i64 0, .int .i64 0, .slice none 0 0]) ?_ 1 _ rfl; (with_reducible repeat (first | refine Zac ?_ _ | refine Zab ?_ | refine Zaa ?_ _)); refine Zao (cs := #[.int .i64 0, .int .i64 0, .int .i64 0, .slice none 0 0]) ?_ 0 _ rfl; exact bP s.out) hb); replace HB := mA (Zaf (bW) hb); (try clear hb); (try clear hb2); (try clear hk); (try clear hi); (try clear T); obtain ⟨eh, ei, ej, ek⟩ := Zau s.out; obtain ⟨el, em, en, eo⟩ := frz4 s.out; obtain ⟨ag, ah, fg⟩ := zP aY.out; subst fg) | ((with_reducible refine Zar (f := 20) rfl ?_); refine Za2 (some 40) Try.func20 #[.agg #[.int .i64 aB, .int .i64 aF, .int .i64 aK, .slice I M.length J], .slice ag W.length ah] ?_; (with_reducible refine (Zci.calls k aB aF aK _ _ M _ _ W L O P v b4 _ ?side1 ?side2 ?side3 ?side4 hw.out).mono ?_); (case side1 => exact cP ((zW aQ.out).2.2)); (case side2 => exact (zW aQ.out).2.1); (case side3 => exact cP ((zK aY.out).2.2)); (case side4 => exact (zK aY.out).2.1); rintro e kh ⟨jO, rfl, T, hb⟩; refine ⟨_, rfl, ?_⟩; obtain ⟨X, bF⟩ := sizeI hb; have a3 := mA (yR (yI (yI (yI (yI (yI (Kd.S_newI T bF) (yO (sP an.out))) (zN (rP ap.out))) (yO (sP aq.out))) (yO (sP aQ.out))) (zN (rP aY.out))) (Zan (bW))); replace an := mA (Kd.S_elderI (sP an.out) (yN T) hb bF); replace ap := mA (zM (rP ap.out) hb); replace aq := mA (Kd.S_elderI (sP aq.out) (yN T) hb bF); replace aQ := mA (Kd.S_elderI (sP aQ.out) (yN T) hb bF); replace aY := mA (zM (rP aY.out) hb); replace j := mA (blkB j.out hb); replace a := mA (blkB a.out hb); replace s := mA (blkB s.out hb); replace HB := mA (Zaf (bW) hb); (try clear hb); (try clear hb2); (try clear hk); (try clear hi); (try clear T)) | ((with_reducible refine Zap (N := 10) rfl ?_); refine boxS (N := 10) (cs := #[.int .i64 0, .int .i64 0, .int .i64 0, .slice none 0 0]) (t := 26) ?_; intro q hg bb hbox hb; replace an := mA (zS (sP an.out) hb); replace ap := mA (zM (rP ap.out) hb); replace aq := mA (zS (sP aq.out) hb); replace aQ := mA (zS (sP aQ.out) hb); replace aY := mA (zM (rP aY.out) hb); replace a3 := mA (zS (sP a3.out) hb); have b := mA (hbox); have iT := geW (w := w) hg; have b7 := geW (w := w) hg; replace HB := mA (Zaf (bW) hb); have ai := mA (neB hg j); have a1 := mA (neC hg j); replace j := mA (blkB j.out hb); have Y := mA (neB hg a); have aS := mA (neC hg a); replace a := mA (blkB a.out hb); have ac := mA (neB hg s); have aW := mA (neC hg s); replace s := mA (blkB s.out hb); clear hb hbox hg; have iU := a1.out; have iV := ai.out; have iW := aS.out; have iX := Y.out; have iY := aW.out; have iZ := ac.out; obtain ⟨ep, er, es, et⟩ := Zau b.out; obtain ⟨eu, ev, ew, ey⟩ := frz4 b.out; obtain ⟨B, A, fh⟩ := yD a3.out; subst fh))
 (try simp only [Act.put, List.setIfInBounds_toArray, List.set_cons_zero, List.set_cons_succ])
 go_cut [51] (fun v51 wc => ∃ (kq : Nat) (bG : Bool), v51 = .bool bG ∧ Zad (Zat.j0 kq l1 bR W b4 bG ar au av aj aa ab ad x aB aF aK M L O P v = some r) ∧ Zad (kq ≤ k) ∧ Zad (Kd.R (Kd.int .i64) 2 wc w.heap.size (fun _ => True) (.slice ag W.length ah) W) ∧ Zad (Kd.S (Kd.slice 2 (Kd.int .i64)) 33 wc w.heap.size (fun k_ => some k_ ≠ ((.slice ag W.length ah) : Value).ownBlock ∧ some k_ ≠ ((.slice I M.length J) : Value).ownBlock ∧ some k_ ≠ ((.slice B v.length A) : Value).ownBlock ∧ a8 ≤ k_ ∧ k_ < aD ∧ k_ < X) (.slice E x.length D) x) ∧ Zad (Kd.S (Kd.slice 2 (Kd.int .i64)) 33 wc w.heap.size (fun k_ => some k_ ≠ ((.slice ag W.length ah) : Value).ownBlock ∧ some k_ ≠ ((.slice E x.length D) : Value).ownBlock ∧ some k_ ≠ ((.slice B v.length A) : Value).ownBlock ∧ aD ≤ k_ ∧ k_ < X) (.slice I M.length J) M) ∧ Zad (Kd.S (Kd.slice 2 (Kd.int .i64)) 33 wc w.heap.size (fun k_ => some k_ ≠ ((.slice ag W.length ah) : Value).ownBlock ∧ some k_ ≠ ((.slice E x.length D) : Value).ownBlock ∧ some k_ ≠ ((.slice I M.length J) : Value).ownBlock ∧ X ≤ k_) (.slice B v.length A) v) ∧ Zad (wc.heap[aL]? = some (.cells #[.int .i64 ar, .int .i64 au, .int .i64 av, (.slice aM aj.length aN)] 24 (0, 0))) ∧ Zad (wc.heap[y]? = some (.cells #[.int .i64 aa, .int .i64 ab, .int .i64 ad, (.slice E x.length D)] 26 (0, 0))) ∧ Zad (wc.heap[U]? = some (.cells #[.int .i64 aB, .int .i64 aF, .int .i64 aK, (.slice I M.length J)] 26 (0, 0))) ∧ Zad (wc.heap[q]? = some (.cells #[.int .i64 L, .int .i64 O, .int .i64 P, (.slice B v.length A)] 26 (0, 0))) ∧ Zad (Below w.heap.size w wc))
 case first =>
  have H := cw.out
  clear cw
  replace H := bE H
  obtain ⟨fi, eN, H⟩ := H
  have e8 := mA eN
  clear eN
  by_cases dr : fi = true
  ·subst dr
   rw [if_pos rfl] at H
   have H' := mA H
   clear H
   have i0 := a1.out
   have i1 := ai.out
   have i2 := aS.out
   have i3 := Y.out
   have i4 := aW.out
   have i5 := ac.out
   have gs : bb.cell? ⟨q, 0, none⟩ = some (.int .i64 0) := bc b 0
   have gu : bb.cell? ⟨q, 1, none⟩ = some (.int .i64 0) := bc b 1
   have gv : bb.cell? ⟨q, 2, none⟩ = some (.int .i64 0) := bc b 2
   have gw : bb.cell? ⟨q, 3, none⟩ = some (.slice none 0 0) := bc b 3
   have gx := Zae b.out 0
   have gy := Zae b.out 1
   have gz := Zae b.out 2
   have gA := Zae b.out 3
   have i6 := aU.out
   have i7 := ax.out
   have i8 := ay.out
   have i9 := aV.out
   have gB : bb.cell? ⟨y, 0, none⟩ = some (.int .i64 aa) := bc a 0
   have gC : bb.cell? ⟨y, 1, none⟩ = some (.int .i64 ab) := bc a 1
   have gD : bb.cell? ⟨y, 2, none⟩ = some (.int .i64 ad) := bc a 2
   have gE : bb.cell? ⟨y, 3, none⟩ = some (.slice E x.length D) := bc a 3
   have gF := Zae a.out 0
   have gG := Zae a.out 1
   have gH := Zae a.out 2
   have gI := Zae a.out 3
   go_wp2_with (first | ((with_reducible refine Zar (f := 13) rfl ?_); refine Za2 (some 45) Try.func13 #[.agg #[.int .i64 L, .int .i64 O, .int .i64 P, .slice B v.length A], .agg #[.int .i64 aa, .int .i64 ab, .int .i64 ad, .slice E x.length D]] ?_; (with_reducible refine (Zbj.calls k L O P _ _ v aa ab ad _ _ x true _ ?side1 ?side2 ?side3 ?side4 e8.out).mono ?_); (case side1 => refine (zW (e := 33) (base := w.heap.size) (ok := fun k_ => ((((((True ∧ X ≤ k_) ∧ some k_ ≠ (.slice bV bu.length bX : Value).ownBlock) ∧ some k_ ≠ (.slice bY bv.length bZ : Value).ownBlock) ∧ some k_ ≠ (.slice E x.length D : Value).ownBlock) ∧ some k_ ≠ (.slice I M.length J : Value).ownBlock) ∧ some k_ ≠ (.slice ag W.length ah : Value).ownBlock)) (n := v.length) (c := A) ?_).2.2; exact (by (with_reducible repeat (first | apply zI | apply zJ | apply zG)); exact (zF (zB (p := ⟨q, 3, none⟩) (zB (p := ⟨q, 2, none⟩) (zB (p := ⟨q, 1, none⟩) (zB (p := ⟨q, 0, none⟩) (zR a3.out b.out (by decide)) (fun _ hk => hk.2) (.int .i64 L)) (fun _ hk => hk.2) (.int .i64 O)) (fun _ hk => hk.2) (.int .i64 P)) (fun _ hk => hk.2) (.slice B v.length A)) (fun _ h_ => h_.1)))); (case side2 => exact (zW a3.out).2.1); (case side3 => refine (zW (e := 33) (base := w.heap.size) (ok := fun k_ => ((((((((True ∧ a8 ≤ k_) ∧ some k_ ≠ (.slice bV bu.length bX : Value).ownBlock) ∧ some k_ ≠ (.slice bY bv.length bZ : Value).ownBlock) ∧ some k_ ≠ (.slice I M.length J : Value).ownBlock) ∧ k_ < aD) ∧ some k_ ≠ (.slice ag W.length ah : Value).ownBlock) ∧ some k_ ≠ (.slice B v.length A : Value).ownBlock) ∧ k_ < X)) (n := x.length) (c := D) ?_).2.2; exact (by (with_reducible repeat (first | apply zI | apply zJ | apply zG)); exact (zF (zB (p := ⟨q, 3, none⟩) (zB (p := ⟨q, 2, none⟩) (zB (p := ⟨q, 1, none⟩) (zB (p := ⟨q, 0, none⟩) (zR aq.out b.out (by decide)) (fun _ hk => hk.2) (.int .i64 L)) (fun _ hk => hk.2) (.int .i64 O)) (fun _ hk => hk.2) (.int .i64 P)) (fun _ hk => hk.2) (.slice B v.length A)) (fun _ h_ => h_.1)))); (case side4 => exact (zW aq.out).2.1); rintro e ki ⟨rfl, hb⟩; refine ⟨_, rfl, ?_⟩; replace an := mA (zS (by (with_reducible repeat (first | apply zI | apply zJ | apply zG)); exact (zF (zB (p := ⟨q, 3, none⟩) (zB (p := ⟨q, 2, none⟩) (zB (p := ⟨q, 1, none⟩) (zB (p := ⟨q, 0, none⟩) (zR an.out b.out (by decide)) (fun _ hk => hk.2) (.int .i64 L)) (fun _ hk => hk.2) (.int .i64 O)) (fun _ hk => hk.2) (.int .i64 P)) (fun _ hk => hk.2) (.slice B v.length A)) (fun _ h_ => h_.1))) hb); replace ap := mA (zM (by (with_reducible repeat (first | apply zD | apply zE | apply zA)); exact (zC (zH (p := ⟨q, 3, none⟩) (zH (p := ⟨q, 2, none⟩) (zH (p := ⟨q, 1, none⟩) (zH (p := ⟨q, 0, none⟩) (zX ap.out b.out (by decide)) (fun _ hk => hk.2) (.int .i64 L)) (fun _ hk => hk.2) (.int .i64 O)) (fun _ hk => hk.2) (.int .i64 P)) (fun _ hk => hk.2) (.slice B v.length A)) (fun _ h_ => h_.1))) hb); replace aq := mA (zS (by (with_reducible repeat (first | apply zI | apply zJ | apply zG)); exact (zF (zB (p := ⟨q, 3, none⟩) (zB (p := ⟨q, 2, none⟩) (zB (p := ⟨q, 1, none⟩) (zB (p := ⟨q, 0, none⟩) (zR aq.out b.out (by decide)) (fun _ hk => hk.2) (.int .i64 L)) (fun _ hk => hk.2) (.int .i64 O)) (fun _ hk => hk.2) (.int .i64 P)) (fun _ hk => hk.2) (.slice B v.length A)) (fun _ h_ => h_.1))) hb); replace aQ := mA (zS (by (with_reducible repeat (first | apply zI | apply zJ | apply zG)); exact (zF (zB (p := ⟨q, 3, none⟩) (zB (p := ⟨q, 2, none⟩) (zB (p := ⟨q, 1, none⟩) (zB (p := ⟨q, 0, none⟩) (zR aQ.out b.out (by decide)) (fun _ hk => hk.2) (.int .i64 L)) (fun _ hk => hk.2) (.int .i64 O)) (fun _ hk => hk.2) (.int .i64 P)) (fun _ hk => hk.2) (.slice B v.length A)) (fun _ h_ => h_.1))) hb); replace aY := mA (zM (by (with_reducible repeat (first | apply zD | apply zE | apply zA)); exact (zC (zH (p := ⟨q, 3, none⟩) (zH (p := ⟨q, 2, none⟩) (zH (p := ⟨q, 1, none⟩) (zH (p := ⟨q, 0, none⟩) (zX aY.out b.out (by decide)) (fun _ hk => hk.2) (.int .i64 L)) (fun _ hk => hk.2) (.int .i64 O)) (fun _ hk => hk.2) (.int .i64 P)) (fun _ hk => hk.2) (.slice B v.length A)) (fun _ h_ => h_.1))) hb); replace a3 := mA (zS (by (with_reducible repeat (first | apply zI | apply zJ | apply zG)); exact (zF (zB (p := ⟨q, 3, none⟩) (zB (p := ⟨q, 2, none⟩) (zB (p := ⟨q, 1, none⟩) (zB (p := ⟨q, 0, none⟩) (zR a3.out b.out (by decide)) (fun _ hk => hk.2) (.int .i64 L)) (fun _ hk => hk.2) (.int .i64 O)) (fun _ hk => hk.2) (.int .i64 P)) (fun _ hk => hk.2) (.slice B v.length A)) (fun _ h_ => h_.1))) hb); replace j := mA (Za1 (g := aL) (o := .cells #[.int .i64 ar, .int .i64 au, .int .i64 av, .slice aM aj.length aN] 24 (0, 0)) (by (with_reducible repeat (first | refine Zac ?_ _ | refine Zab ?_ | refine Zaa ?_ _)); refine Zak ?_ ai.out _; (with_reducible repeat (first | refine Zac ?_ _ | refine Zab ?_ | refine Zaa ?_ _)); refine Zak ?_ ai.out _; (with_reducible repeat (first | refine Zac ?_ _ | refine Zab ?_ | refine Zaa ?_ _)); refine Zak ?_ ai.out _; (with_reducible repeat (first | refine Zac ?_ _ | refine Zab ?_ | refine Zaa ?_ _)); refine Zak ?_ ai.out _; exact bP j.out) hb); replace a := mA (Za1 (g := y) (o := .cells #[.int .i64 aa, .int .i64 ab, .int .i64 ad, .slice E x.length D] 26 (0, 0)) (by (with_reducible repeat (first | refine Zac ?_ _ | refine Zab ?_ | refine Zaa ?_ _)); refine Zak ?_ Y.out _; (with_reducible repeat (first | refine Zac ?_ _ | refine Zab ?_ | refine Zaa ?_ _)); refine Zak ?_ Y.out _; (with_reducible repeat (first | refine Zac ?_ _ | refine Zab ?_ | refine Zaa ?_ _)); refine Zak ?_ Y.out _; (with_reducible repeat (first | refine Zac ?_ _ | refine Zab ?_ | refine Zaa ?_ _)); refine Zak ?_ Y.out _; exact bP a.out) hb); replace s := mA (Za1 (g := U) (o := .cells #[.int .i64 aB, .int .i64 aF, .int .i64 aK, .slice I M.length J] 26 (0, 0)) (by (with_reducible repeat (first | refine Zac ?_ _ | refine Zab ?_ | refine Zaa ?_ _)); refine Zak ?_ ac.out _; (with_reducible repeat (first | refine Zac ?_ _ | refine Zab ?_ | refine Zaa ?_ _)); refine Zak ?_ ac.out _; (with_reducible repeat (first | refine Zac ?_ _ | refine Zab ?_ | refine Zaa ?_ _)); refine Zak ?_ ac.out _; (with_reducible repeat (first | refine Zac ?_ _ | refine Zab ?_ | refine Zaa ?_ _)); refine Zak ?_ ac.out _; exact bP s.out) hb); replace b := mA (Za1 (g := q) (o := .cells #[.int .i64 L, .int .i64 O, .int .i64 P, .slice B v.length A] 26 (0, 0)) (by (with_reducible repeat (first | refine Zac ?_ _ | refine Zab ?_ | refine Zaa ?_ _)); refine Zao (cs := #[.int .i64 L, .int .i64 O, .int .i64 P, .slice none 0 0]) ?_ 3 _ rfl; (with_reducible repeat (first | refine Zac ?_ _ | refine Zab ?_ | refine Zaa ?_ _)); refine Zao (cs := #[.int .i64 L, .int .i64 O, .int .i64 0, .slice none 0 0]) ?_ 2 _ rfl; (with_reducible repeat (first | refine Zac ?_ _ | refine Zab ?_ | refine Zaa ?_ _)); refine Zao (cs := #[.int .i64 L, .int .i64 0, .int .i64 0, .slice none 0 0]) ?_ 1 _ rfl; (with_reducible repeat (first | refine Zac ?_ _ | refine Zab ?_ | refine Zaa ?_ _)); refine Zao (cs := #[.int .i64 0, .int .i64 0, .int .i64 0, .slice none 0 0]) ?_ 0 _ rfl; exact bP b.out) hb); replace HB := mA (Zaf (bW) hb); (try clear hb); (try clear hb2); (try clear hk); (try clear hi)))
   go_meet
   case rel => exact ⟨_, ((b4 != bR)), (eW), H', ⟨by first | omega | exact Nat.le_refl _⟩, ⟨by (with_reducible repeat (first | apply zD | apply zE | apply zA)); exact zC aY.out (fun _ hk => trivial)⟩, ⟨by (with_reducible repeat (first | apply zI | apply zJ | apply zG)); exact zF aq.out (fun _ hk => ⟨hk.1.1.2, ⟨hk.1.1.1.1.2, ⟨hk.1.2, ⟨hk.1.1.1.1.1.1.1.2, ⟨hk.1.1.1.2, hk.2⟩⟩⟩⟩⟩)⟩, ⟨by (with_reducible repeat (first | apply zI | apply zJ | apply zG)); exact zF aQ.out (fun _ hk => ⟨hk.1.1.2, ⟨hk.1.1.1.2, ⟨hk.1.2, ⟨hk.1.1.1.1.1.1.2, hk.2⟩⟩⟩⟩)⟩, ⟨by (with_reducible repeat (first | apply zI | apply zJ | apply zG)); exact zF a3.out (fun _ hk => ⟨hk.2, ⟨hk.1.1.2, ⟨hk.1.2, hk.1.1.1.1.1.2⟩⟩⟩)⟩, ⟨bP j.out⟩, ⟨bP a.out⟩, ⟨bP s.out⟩, ⟨bP b.out⟩, ⟨bW⟩⟩
  replace dr := Bool.eq_false_iff.mpr dr
  subst dr
  rw [iF] at H
  have H' := mA H
  clear H
  have ja := a1.out
  have jb := ai.out
  have jc := aS.out
  have jd := Y.out
  have je := aW.out
  have jf := ac.out
  have gJ : bb.cell? ⟨q, 0, none⟩ = some (.int .i64 0) := bc b 0
  have gK : bb.cell? ⟨q, 1, none⟩ = some (.int .i64 0) := bc b 1
  have gL : bb.cell? ⟨q, 2, none⟩ = some (.int .i64 0) := bc b 2
  have gM : bb.cell? ⟨q, 3, none⟩ = some (.slice none 0 0) := bc b 3
  have gN := Zae b.out 0
  have gO := Zae b.out 1
  have gP := Zae b.out 2
  have gQ := Zae b.out 3
  have jg := aU.out
  have jh := ax.out
  have ji := ay.out
  have jj := aV.out
  have gR : bb.cell? ⟨y, 0, none⟩ = some (.int .i64 aa) := bc a 0
  have gS : bb.cell? ⟨y, 1, none⟩ = some (.int .i64 ab) := bc a 1
  have gT : bb.cell? ⟨y, 2, none⟩ = some (.int .i64 ad) := bc a 2
  have gU : bb.cell? ⟨y, 3, none⟩ = some (.slice E x.length D) := bc a 3
  have gV := Zae a.out 0
  have gW := Zae a.out 1
  have gX := Zae a.out 2
  have gY := Zae a.out 3
  go_wp2_with (first | ((with_reducible refine Zar (f := 13) rfl ?_); refine Za2 (some 45) Try.func13 #[.agg #[.int .i64 L, .int .i64 O, .int .i64 P, .slice B v.length A], .agg #[.int .i64 aa, .int .i64 ab, .int .i64 ad, .slice E x.length D]] ?_; (with_reducible refine (Zbj.calls k L O P _ _ v aa ab ad _ _ x false _ ?side1 ?side2 ?side3 ?side4 e8.out).mono ?_); (case side1 => refine (zW (e := 33) (base := w.heap.size) (ok := fun k_ => ((((((True ∧ X ≤ k_) ∧ some k_ ≠ (.slice bV bu.length bX : Value).ownBlock) ∧ some k_ ≠ (.slice bY bv.length bZ : Value).ownBlock) ∧ some k_ ≠ (.slice E x.length D : Value).ownBlock) ∧ some k_ ≠ (.slice I M.length J : Value).ownBlock) ∧ some k_ ≠ (.slice ag W.length ah : Value).ownBlock)) (n := v.length) (c := A) ?_).2.2; exact (by (with_reducible repeat (first | apply zI | apply zJ | apply zG)); exact (zF (zB (p := ⟨q, 3, none⟩) (zB (p := ⟨q, 2, none⟩) (zB (p := ⟨q, 1, none⟩) (zB (p := ⟨q, 0, none⟩) (zR a3.out b.out (by decide)) (fun _ hk => hk.2) (.int .i64 L)) (fun _ hk => hk.2) (.int .i64 O)) (fun _ hk => hk.2) (.int .i64 P)) (fun _ hk => hk.2) (.slice B v.length A)) (fun _ h_ => h_.1)))); (case side2 => exact (zW a3.out).2.1); (case side3 => refine (zW (e := 33) (base := w.heap.size) (ok := fun k_ => ((((((((True ∧ a8 ≤ k_) ∧ some k_ ≠ (.slice bV bu.length bX : Value).ownBlock) ∧ some k_ ≠ (.slice bY bv.length bZ : Value).ownBlock) ∧ some k_ ≠ (.slice I M.length J : Value).ownBlock) ∧ k_ < aD) ∧ some k_ ≠ (.slice ag W.length ah : Value).ownBlock) ∧ some k_ ≠ (.slice B v.length A : Value).ownBlock) ∧ k_ < X)) (n := x.length) (c := D) ?_).2.2; exact (by (with_reducible repeat (first | apply zI | apply zJ | apply zG)); exact (zF (zB (p := ⟨q, 3, none⟩) (zB (p := ⟨q, 2, none⟩) (zB (p := ⟨q, 1, none⟩) (zB (p := ⟨q, 0, none⟩) (zR aq.out b.out (by decide)) (fun _ hk => hk.2) (.int .i64 L)) (fun _ hk => hk.2) (.int .i64 O)) (fun _ hk => hk.2) (.int .i64 P)) (fun _ hk => hk.2) (.slice B v.length A)) (fun _ h_ => h_.1)))); (case side4 => exact (zW aq.out).2.1); rintro e w64 ⟨rfl, hb⟩; refine ⟨_, rfl, ?_⟩; replace an := mA (zS (by (with_reducible repeat (first | apply zI | apply zJ | apply zG)); exact (zF (zB (p := ⟨q, 3, none⟩) (zB (p := ⟨q, 2, none⟩) (zB (p := ⟨q, 1, none⟩) (zB (p := ⟨q, 0, none⟩) (zR an.out b.out (by decide)) (fun _ hk => hk.2) (.int .i64 L)) (fun _ hk => hk.2) (.int .i64 O)) (fun _ hk => hk.2) (.int .i64 P)) (fun _ hk => hk.2) (.slice B v.length A)) (fun _ h_ => h_.1))) hb); replace ap := mA (zM (by (with_reducible repeat (first | apply zD | apply zE | apply zA)); exact (zC (zH (p := ⟨q, 3, none⟩) (zH (p := ⟨q, 2, none⟩) (zH (p := ⟨q, 1, none⟩) (zH (p := ⟨q, 0, none⟩) (zX ap.out b.out (by decide)) (fun _ hk => hk.2) (.int .i64 L)) (fun _ hk => hk.2) (.int .i64 O)) (fun _ hk => hk.2) (.int .i64 P)) (fun _ hk => hk.2) (.slice B v.length A)) (fun _ h_ => h_.1))) hb); replace aq := mA (zS (by (with_reducible repeat (first | apply zI | apply zJ | apply zG)); exact (zF (zB (p := ⟨q, 3, none⟩) (zB (p := ⟨q, 2, none⟩) (zB (p := ⟨q, 1, none⟩) (zB (p := ⟨q, 0, none⟩) (zR aq.out b.out (by decide)) (fun _ hk => hk.2) (.int .i64 L)) (fun _ hk => hk.2) (.int .i64 O)) (fun _ hk => hk.2) (.int .i64 P)) (fun _ hk => hk.2) (.slice B v.length A)) (fun _ h_ => h_.1))) hb); replace aQ := mA (zS (by (with_reducible repeat (first | apply zI | apply zJ | apply zG)); exact (zF (zB (p := ⟨q, 3, none⟩) (zB (p := ⟨q, 2, none⟩) (zB (p := ⟨q, 1, none⟩) (zB (p := ⟨q, 0, none⟩) (zR aQ.out b.out (by decide)) (fun _ hk => hk.2) (.int .i64 L)) (fun _ hk => hk.2) (.int .i64 O)) (fun _ hk => hk.2) (.int .i64 P)) (fun _ hk => hk.2) (.slice B v.length A)) (fun _ h_ => h_.1))) hb); replace aY := mA (zM (by (with_reducible repeat (first | apply zD | apply zE | apply zA)); exact (zC (zH (p := ⟨q, 3, none⟩) (zH (p := ⟨q, 2, none⟩) (zH (p := ⟨q, 1, none⟩) (zH (p := ⟨q, 0, none⟩) (zX aY.out b.out (by decide)) (fun _ hk => hk.2) (.int .i64 L)) (fun _ hk => hk.2) (.int .i64 O)) (fun _ hk => hk.2) (.int .i64 P)) (fun _ hk => hk.2) (.slice B v.length A)) (fun _ h_ => h_.1))) hb); replace a3 := mA (zS (by (with_reducible repeat (first | apply zI | apply zJ | apply zG)); exact (zF (zB (p := ⟨q, 3, none⟩) (zB (p := ⟨q, 2, none⟩) (zB (p := ⟨q, 1, none⟩) (zB (p := ⟨q, 0, none⟩) (zR a3.out b.out (by decide)) (fun _ hk => hk.2) (.int .i64 L)) (fun _ hk => hk.2) (.int .i64 O)) (fun _ hk => hk.2) (.int .i64 P)) (fun _ hk => hk.2) (.slice B v.length A)) (fun _ h_ => h_.1))) hb); replace j := mA (Za1 (g := aL) (o := .cells #[.int .i64 ar, .int .i64 au, .int .i64 av, .slice aM aj.length aN] 24 (0, 0)) (by (with_reducible repeat (first | refine Zac ?_ _ | refine Zab ?_ | refine Zaa ?_ _)); refine Zak ?_ ai.out _; (with_reducible repeat (first | refine Zac ?_ _ | refine Zab ?_ | refine Zaa ?_ _)); refine Zak ?_ ai.out _; (with_reducible repeat (first | refine Zac ?_ _ | refine Zab ?_ | refine Zaa ?_ _)); refine Zak ?_ ai.out _; (with_reducible repeat (first | refine Zac ?_ _ | refine Zab ?_ | refine Zaa ?_ _)); refine Zak ?_ ai.out _; exact bP j.out) hb); replace a := mA (Za1 (g := y) (o := .cells #[.int .i64 aa, .int .i64 ab, .int .i64 ad, .slice E x.length D] 26 (0, 0)) (by (with_reducible repeat (first | refine Zac ?_ _ | refine Zab ?_ | refine Zaa ?_ _)); refine Zak ?_ Y.out _; (with_reducible repeat (first | refine Zac ?_ _ | refine Zab ?_ | refine Zaa ?_ _)); refine Zak ?_ Y.out _; (with_reducible repeat (first | refine Zac ?_ _ | refine Zab ?_ | refine Zaa ?_ _)); refine Zak ?_ Y.out _; (with_reducible repeat (first | refine Zac ?_ _ | refine Zab ?_ | refine Zaa ?_ _)); refine Zak ?_ Y.out _; exact bP a.out) hb); replace s := mA (Za1 (g := U) (o := .cells #[.int .i64 aB, .int .i64 aF, .int .i64 aK, .slice I M.length J] 26 (0, 0)) (by (with_reducible repeat (first | refine Zac ?_ _ | refine Zab ?_ | refine Zaa ?_ _)); refine Zak ?_ ac.out _; (with_reducible repeat (first | refine Zac ?_ _ | refine Zab ?_ | refine Zaa ?_ _)); refine Zak ?_ ac.out _; (with_reducible repeat (first | refine Zac ?_ _ | refine Zab ?_ | refine Zaa ?_ _)); refine Zak ?_ ac.out _; (with_reducible repeat (first | refine Zac ?_ _ | refine Zab ?_ | refine Zaa ?_ _)); refine Zak ?_ ac.out _; exact bP s.out) hb); replace b := mA (Za1 (g := q) (o := .cells #[.int .i64 L, .int .i64 O, .int .i64 P, .slice B v.length A] 26 (0, 0)) (by (with_reducible repeat (first | refine Zac ?_ _ | refine Zab ?_ | refine Zaa ?_ _)); refine Zao (cs := #[.int .i64 L, .int .i64 O, .int .i64 P, .slice none 0 0]) ?_ 3 _ rfl; (with_reducible repeat (first | refine Zac ?_ _ | refine Zab ?_ | refine Zaa ?_ _)); refine Zao (cs := #[.int .i64 L, .int .i64 O, .int .i64 0, .slice none 0 0]) ?_ 2 _ rfl; (with_reducible repeat (first | refine Zac ?_ _ | refine Zab ?_ | refine Zaa ?_ _)); refine Zao (cs := #[.int .i64 L, .int .i64 0, .int .i64 0, .slice none 0 0]) ?_ 1 _ rfl; (with_reducible repeat (first | refine Zac ?_ _ | refine Zab ?_ | refine Zaa ?_ _)); refine Zao (cs := #[.int .i64 0, .int .i64 0, .int .i64 0, .slice none 0 0]) ?_ 0 _ rfl; exact bP b.out) hb); replace HB := mA (Zaf (bW) hb); (try clear hb); (try clear hb2); (try clear hk); (try clear hi)))
  go_meet
  case rel => exact ⟨_, (true), (eW), H', ⟨by first | omega | exact Nat.le_refl _⟩, ⟨by (with_reducible repeat (first | apply zD | apply zE | apply zA)); exact zC aY.out (fun _ hk => trivial)⟩, ⟨by (with_reducible repeat (first | apply zI | apply zJ | apply zG)); exact zF aq.out (fun _ hk => ⟨hk.1.1.2, ⟨hk.1.1.1.1.2, ⟨hk.1.2, ⟨hk.1.1.1.1.1.1.1.2, ⟨hk.1.1.1.2, hk.2⟩⟩⟩⟩⟩)⟩, ⟨by (with_reducible repeat (first | apply zI | apply zJ | apply zG)); exact zF aQ.out (fun _ hk => ⟨hk.1.1.2, ⟨hk.1.1.1.2, ⟨hk.1.2, ⟨hk.1.1.1.1.1.1.2, hk.2⟩⟩⟩⟩)⟩, ⟨by (with_reducible repeat (first | apply zI | apply zJ | apply zG)); exact zF a3.out (fun _ hk => ⟨hk.2, ⟨hk.1.1.2, ⟨hk.1.2, hk.1.1.1.1.1.2⟩⟩⟩)⟩, ⟨bP j.out⟩, ⟨bP a.out⟩, ⟨bP s.out⟩, ⟨bP b.out⟩, ⟨bW⟩⟩
 case rest =>
  clear cw eH eI eJ dB dC dD dE dK dL dM dN dS dU dV dW d1 d2 d3 d4 d9 ea eb ec eh ei ej ek ep er es et dG dH dI dJ dO dP dQ dR dX dY dZ d0 d5 d6 d7 d8 ed ee ef eg el em en eo eu ev ew ey
  obtain ⟨kq, bG, rfl, HA, b1, al, l, m, d, j, a, s, b, HB⟩ := hcut
  cases kq with
  | zero => exact absurd HA.out (by simp [Zat.j0])
  | succ bi =>
   have H := HA.out
   clear HA
   simp only [Zat.j0] at H
   by_cases dt : bG = true
   ·subst dt
    rw [if_pos rfl] at H
    exact absurd (oI H) (by rw [HTr_.out]; decide)
   replace dt := Bool.eq_false_iff.mpr dt
   subst dt
   rw [iF] at H
   replace H := bE H
   obtain ⟨⟨cx, cy, cz, aT⟩, A660, H⟩ := H
   try dsimp only at H
   have hx := mA A660
   clear A660
   replace H := bE H
   obtain ⟨fj, eO, H⟩ := H
   have hy := mA eO
   clear eO
   by_cases du : fj = true; rotate_left
   ·replace du := Bool.eq_false_iff.mpr du
    subst du
    rw [iF] at H
    exact absurd (oI H) (by rw [HTr_.out]; decide)
   subst du
   rw [if_pos rfl] at H
   replace H := bE H
   obtain ⟨aC, eP, H⟩ := H
   have hz := mA eP
   clear eP
   replace H := bE H
   obtain ⟨fk, eQ, H⟩ := H
   have hA := mA eQ
   clear eQ
   by_cases dv : fk = true; rotate_left
   ·replace dv := Bool.eq_false_iff.mpr dv
    subst dv
    rw [iF] at H
    exact absurd (oI H) (by rw [HTr_.out]; decide)
   subst dv
   rw [if_pos rfl] at H
   replace H := bE H
   obtain ⟨⟨cA, a2⟩, A720, H⟩ := H
   try dsimp only at H
   have hB := mA A720
   clear A720
   replace H := bE H
   obtain ⟨⟨eR, fl⟩, A730, H⟩ := H
   try dsimp only at H
   have hC := mA A730
   clear A730
   have cB := mA H
   clear H
   try go_wp2
   replace al := mA (zA al.out)
   replace l := mA (zG l.out)
   replace m := mA (zG m.out)
   replace d := mA (zG d.out)
   replace j := mA (Zab j.out)
   replace a := mA (Zab a.out)
   replace s := mA (Zab s.out)
   replace b := mA (Zab b.out)
   replace HB := mA (Za3 HB.out)
   refine start_ (n := 5) (S := fun w' => w'.cell? ⟨U, 0, none⟩ = some (.int .i64 aB) ∧ w'.cell? ⟨U, 1, none⟩ = some (.int .i64 aF) ∧ w'.cell? ⟨U, 2, none⟩ = some (.int .i64 aK) ∧ w'.cell? ⟨U, 3, none⟩ = some (.slice I M.length J) ∧ w'.cell? ⟨aL, 0, none⟩ = some (.int .i64 ar) ∧ w'.cell? ⟨aL, 1, none⟩ = some (.int .i64 au) ∧ w'.cell? ⟨aL, 2, none⟩ = some (.int .i64 av) ∧ w'.cell? ⟨aL, 3, none⟩ = some (.slice aM aj.length aN)) (ds := []) #[false, false, false, false, false] (by kernel_rfl) rfl rfl ⟨bc s 0, bc s 1, bc s 2, bc s 3, bc j 0, bc j 1, bc j 2, bc j 3⟩ (fun hHeld => ?_)
   generalize wc.drew = w75 at al l m d j a s b HB hHeld ⊢
   refine Zbt (i := 0) (N := some 52) (by kernel_rfl) hHeld ?_
   refine Zbt (i := 1) (N := some 53) (by kernel_rfl) hHeld ?_
   refine one_ (i := 2) (N := some 54) #[true, true, true, false, false] rfl rfl (by kernel_rfl) (by decide) (fun K hK => ?_)
   refine goes_ Try.func11 (by kernel_rfl) rfl #[.agg #[.int .i64 ar, .int .i64 au, .int .i64 av, .slice aM aj.length aN]] (by rfl) rfl rfl (by (try simp only [List.map_toArray, List.map_cons, List.map_nil]); first | done | rfl | (simp only [List.length_drop, List.length_take]; rfl)) ?_
   with_reducible refine (Zbr.calls bi ar au av _ _ aj cx cy cz aT _ ?side1 ?side2 hx.out).mono ?_
   (case side1 => exact cP (zL br.out HB.out))
   (case side2 => exact bs.out)
   rintro e kj ⟨jP, rfl, T, hb⟩
   refine ⟨_, rfl, ?_⟩
   obtain ⟨ae, bH⟩ := sizeI hb
   have aE := mA (yR (yI (yI (yI (yI (Kd.S_newI T bH) (zN (rP al.out))) (yO (sP l.out))) (yO (sP m.out))) (yO (sP d.out))) (Zan (bW)))
   replace al := mA (zM (rP al.out) hb)
   replace l := mA (Kd.S_elderI (sP l.out) (yN T) hb bH)
   replace m := mA (Kd.S_elderI (sP m.out) (yN T) hb bH)
   replace d := mA (Kd.S_elderI (sP d.out) (yN T) hb bH)
   replace j := mA (blkB j.out hb)
   replace a := mA (blkB a.out hb)
   replace s := mA (blkB s.out hb)
   replace b := mA (blkB b.out hb)
   replace HB := mA (Zaf (bW) hb)
   (try clear hb)
   (try clear hb2)
   (try clear hk)
   (try clear hi)
   (try clear T)
   obtain ⟨a5, a6, eS⟩ := yD aE.out
   (first | subst eS | (injection eS with e9 hD fa; have hE := e9.symm; have hF := fa.symm; clear e9 hD fa; subst hE; subst hF))
   refine hK.out _ _ ⟨bc s 0, bc s 1, bc s 2, bc s 3, bc j 0, bc j 1, bc j 2, bc j 3⟩ (fun hHeld => ?_)
   clear hK K
   refine putS 54 ?_
   refine one_ (i := 3) (N := some 55) #[true, true, true, true, false] rfl rfl (by kernel_rfl) (by decide) (fun K hK => ?_)
   refine goes_ Try.func13 (by kernel_rfl) rfl #[.agg #[.int .i64 aB, .int .i64 aF, .int .i64 aK, .slice I M.length J], .agg #[.int .i64 cx, .int .i64 cy, .int .i64 cz, .slice a5 aT.length a6]] (by rfl) rfl rfl (by (try simp only [List.map_toArray, List.map_cons, List.map_nil]); first | done | rfl | (simp only [List.length_drop, List.length_take]; rfl)) ?_
   with_reducible refine (Zbj.calls bi aB aF aK _ _ M cx cy cz _ _ aT true _ ?side1 ?side2 ?side3 ?side4 hy.out).mono ?_
   (case side1 => exact cP ((zW m.out).2.2))
   (case side2 => exact (zW m.out).2.1)
   (case side3 => exact cP ((zW aE.out).2.2))
   (case side4 => exact (zW aE.out).2.1)
   rintro e kk ⟨rfl, hb⟩
   refine ⟨_, rfl, ?_⟩
   replace al := mA (zM (rP al.out) hb)
   replace l := mA (zS (sP l.out) hb)
   replace m := mA (zS (sP m.out) hb)
   replace d := mA (zS (sP d.out) hb)
   replace aE := mA (zS (sP aE.out) hb)
   replace j := mA (blkB j.out hb)
   replace a := mA (blkB a.out hb)
   replace s := mA (blkB s.out hb)
   replace b := mA (blkB b.out hb)
   replace HB := mA (Zaf (bW) hb)
   (try clear hb)
   (try clear hb2)
   (try clear hk)
   (try clear hi)
   refine hK.out _ _ ⟨bc s 0, bc s 1, bc s 2, bc s 3, bc j 0, bc j 1, bc j 2, bc j 3⟩ (fun hHeld => ?_)
   clear hK K
   refine putS 55 ?_
   refine Zav (i := 4) (N := some 56) (by kernel_rfl) ?_
   refine done_ (by kernel_rfl) ?_
   go_upto_region 20 with (first | ((with_reducible refine Zar (f := 19) rfl ?_); refine Za2 (some 59) Try.func19 #[.slice A1 l1.length c1] ?_; (with_reducible refine (Zba.calls bi _ _ l1 aC _ ?side1 ?side2 hz.out).mono ?_); (case side1 => exact cP (zL dn.out HB.out)); (case side2 => exact dp.out); rintro e aX ⟨jQ, rfl, T, hb⟩; refine ⟨_, rfl, ?_⟩; replace l := mA (yK (sP l.out) (zT T) hb); replace m := mA (yK (sP m.out) (zT T) hb); replace d := mA (yK (sP d.out) (zT T) hb); replace aE := mA (yK (sP aE.out) (zT T) hb); have aR := mA (zV (yA T (zN (rP al.out))) (Zan (bW))); replace al := mA (zZ (rP al.out) (zT T) hb); replace j := mA (blkB j.out hb); replace a := mA (blkB a.out hb); replace s := mA (blkB s.out hb); replace b := mA (blkB b.out hb); replace HB := mA (Zaf (bW) hb); (try clear hb); (try clear hb2); (try clear hk); (try clear hi); (try clear T); obtain ⟨aO, aP, fm⟩ := zP aR.out; subst fm) | ((with_reducible refine Zar (f := 21) rfl ?_); refine Za2 (some 60) Try.func21 #[.slice ag W.length ah, .slice aO aC.length aP] ?_; (with_reducible refine (Zbc.calls bi _ _ W _ _ aC true _ ?side1 ?side2 ?side3 ?side4 hA.out).mono ?_); (case side1 => exact cP ((zK al.out).2.2)); (case side2 => exact (zK al.out).2.1); (case side3 => exact cP ((zK aR.out).2.2)); (case side4 => exact (zK aR.out).2.1); rintro e w' ⟨rfl, ⟨nd, rfl⟩⟩; refine ⟨_, rfl, ?_⟩; (first | (rw [drewN_self aX]; generalize hq_ : World.drewN aX _ = aX; have cd : Zad (Kd.S (Kd.slice 2 (Kd.int .i64)) 33 aX w.heap.size (fun k_ => some k_ ≠ (.slice aO aC.length aP : Value).ownBlock ∧ some k_ ≠ (.slice E x.length D : Value).ownBlock ∧ some k_ ≠ (.slice I M.length J : Value).ownBlock ∧ some k_ ≠ (.slice B v.length A : Value).ownBlock ∧ some k_ ≠ (.slice ag W.length ah : Value).ownBlock ∧ ae ≤ k_) (.slice a5 aT.length a6) aT) := ⟨by rw [← hq_]; exact (by (with_reducible repeat (first | apply zI | apply zJ | apply zG)); exact zF aE.out (fun _ hk => ⟨hk.2, ⟨hk.1.1.1.2, ⟨hk.1.1.2, ⟨hk.1.2, ⟨hk.1.1.1.1.2, hk.1.1.1.1.1.2⟩⟩⟩⟩⟩))⟩; have ce : Zad (Kd.R (Kd.int .i64) 2 aX w.heap.size (fun k_ => some k_ ≠ (.slice ag W.length ah : Value).ownBlock) (.slice aO aC.length aP) aC) := ⟨by rw [← hq_]; exact (by (with_reducible repeat (first | apply zD | apply zE | apply zA)); exact zC aR.out (fun _ hk => hk.2))⟩; have cf : Zad (Kd.S (Kd.slice 2 (Kd.int .i64)) 33 aX w.heap.size (fun k_ => some k_ ≠ (.slice a5 aT.length a6 : Value).ownBlock ∧ some k_ ≠ (.slice aO aC.length aP : Value).ownBlock ∧ some k_ ≠ (.slice I M.length J : Value).ownBlock ∧ some k_ ≠ (.slice B v.length A : Value).ownBlock ∧ some k_ ≠ (.slice ag W.length ah : Value).ownBlock ∧ a8 ≤ k_ ∧ k_ < aD ∧ k_ < X ∧ k_ < ae) (.slice E x.length D) x) := ⟨by rw [← hq_]; exact (by (with_reducible repeat (first | apply zI | apply zJ | apply zG)); exact zF l.out (fun _ hk => ⟨hk.1.1.2, ⟨hk.2, ⟨hk.1.1.1.2.1, ⟨hk.1.1.1.2.2.1, ⟨hk.1.1.1.1, ⟨hk.1.1.1.2.2.2.1, ⟨hk.1.1.1.2.2.2.2.1, ⟨hk.1.1.1.2.2.2.2.2, hk.1.2⟩⟩⟩⟩⟩⟩⟩⟩))⟩; have cg : Zad (Kd.S (Kd.slice 2 (Kd.int .i64)) 33 aX w.heap.size (fun k_ => some k_ ≠ (.slice a5 aT.length a6 : Value).ownBlock ∧ some k_ ≠ (.slice aO aC.length aP : Value).ownBlock ∧ some k_ ≠ (.slice E x.length D : Value).ownBlock ∧ some k_ ≠ (.slice B v.length A : Value).ownBlock ∧ some k_ ≠ (.slice ag W.length ah : Value).ownBlock ∧ aD ≤ k_ ∧ k_ < X ∧ k_ < ae) (.slice I M.length J) M) := ⟨by rw [← hq_]; exact (by (with_reducible repeat (first | apply zI | apply zJ | apply zG)); exact zF m.out (fun _ hk => ⟨hk.1.1.2, ⟨hk.2, ⟨hk.1.1.1.2.1, ⟨hk.1.1.1.2.2.1, ⟨hk.1.1.1.1, ⟨hk.1.1.1.2.2.2.1, ⟨hk.1.1.1.2.2.2.2, hk.1.2⟩⟩⟩⟩⟩⟩⟩))⟩; have ch : Zad (Kd.S (Kd.slice 2 (Kd.int .i64)) 33 aX w.heap.size (fun k_ => some k_ ≠ (.slice a5 aT.length a6 : Value).ownBlock ∧ some k_ ≠ (.slice aO aC.length aP : Value).ownBlock ∧ some k_ ≠ (.slice E x.length D : Value).ownBlock ∧ some k_ ≠ (.slice I M.length J : Value).ownBlock ∧ some k_ ≠ (.slice ag W.length ah : Value).ownBlock ∧ X ≤ k_ ∧ k_ < ae) (.slice B v.length A) v) := ⟨by rw [← hq_]; exact (by (with_reducible repeat (first | apply zI | apply zJ | apply zG)); exact zF d.out (fun _ hk => ⟨hk.1.1.2, ⟨hk.2, ⟨hk.1.1.1.2.1, ⟨hk.1.1.1.2.2.1, ⟨hk.1.1.1.1, ⟨hk.1.1.1.2.2.2, hk.1.2⟩⟩⟩⟩⟩⟩))⟩; have ci : Zad (Kd.R (Kd.int .i64) 2 aX w.heap.size (fun k_ => some k_ ≠ (.slice aO aC.length aP : Value).ownBlock) (.slice ag W.length ah) W) := ⟨by rw [← hq_]; exact (by (with_reducible repeat (first | apply zD | apply zE | apply zA)); exact zC al.out (fun _ hk => hk.2))⟩; have cj : Zad (aX.heap[aL]? = some (.cells #[.int .i64 ar, .int .i64 au, .int .i64 av, .slice aM aj.length aN] 24 (0, 0))) := ⟨by rw [← hq_]; exact (bP j.out)⟩; have ck : Zad (aX.heap[y]? = some (.cells #[.int .i64 aa, .int .i64 ab, .int .i64 ad, .slice E x.length D] 26 (0, 0))) := ⟨by rw [← hq_]; exact (bP a.out)⟩; have cm : Zad (aX.heap[U]? = some (.cells #[.int .i64 aB, .int .i64 aF, .int .i64 aK, .slice I M.length J] 26 (0, 0))) := ⟨by rw [← hq_]; exact (bP s.out)⟩; have cn : Zad (aX.heap[q]? = some (.cells #[.int .i64 L, .int .i64 O, .int .i64 P, .slice B v.length A] 26 (0, 0))) := ⟨by rw [← hq_]; exact (bP b.out)⟩; have b2 : Zad (Below w.heap.size w aX) := ⟨by rw [← hq_]; exact (bW)⟩; clear aE aR l m d al j a s b HB hq_; have aE := cd; have aR := ce; have l := cf; have m := cg; have d := ch; have al := ci; have j := cj; have a := ck; have s := cm; have b := cn; have HB := b2; clear cd ce cf cg ch ci cj ck cm cn b2) | (have cd : Zad (Kd.S (Kd.slice 2 (Kd.int .i64)) 33 aX w.heap.size (fun k_ => some k_ ≠ (.slice aO aC.length aP : Value).ownBlock ∧ some k_ ≠ (.slice E x.length D : Value).ownBlock ∧ some k_ ≠ (.slice I M.length J : Value).ownBlock ∧ some k_ ≠ (.slice B v.length A : Value).ownBlock ∧ some k_ ≠ (.slice ag W.length ah : Value).ownBlock ∧ ae ≤ k_) (.slice a5 aT.length a6) aT) := ⟨(by (with_reducible repeat (first | apply zI | apply zJ | apply zG)); exact zF aE.out (fun _ hk => ⟨hk.2, ⟨hk.1.1.1.2, ⟨hk.1.1.2, ⟨hk.1.2, ⟨hk.1.1.1.1.2, hk.1.1.1.1.1.2⟩⟩⟩⟩⟩))⟩; have ce : Zad (Kd.R (Kd.int .i64) 2 aX w.heap.size (fun k_ => some k_ ≠ (.slice ag W.length ah : Value).ownBlock) (.slice aO aC.length aP) aC) := ⟨(by (with_reducible repeat (first | apply zD | apply zE | apply zA)); exact zC aR.out (fun _ hk => hk.2))⟩; have cf : Zad (Kd.S (Kd.slice 2 (Kd.int .i64)) 33 aX w.heap.size (fun k_ => some k_ ≠ (.slice a5 aT.length a6 : Value).ownBlock ∧ some k_ ≠ (.slice aO aC.length aP : Value).ownBlock ∧ some k_ ≠ (.slice I M.length J : Value).ownBlock ∧ some k_ ≠ (.slice B v.length A : Value).ownBlock ∧ some k_ ≠ (.slice ag W.length ah : Value).ownBlock ∧ a8 ≤ k_ ∧ k_ < aD ∧ k_ < X ∧ k_ < ae) (.slice E x.length D) x) := ⟨(by (with_reducible repeat (first | apply zI | apply zJ | apply zG)); exact zF l.out (fun _ hk => ⟨hk.1.1.2, ⟨hk.2, ⟨hk.1.1.1.2.1, ⟨hk.1.1.1.2.2.1, ⟨hk.1.1.1.1, ⟨hk.1.1.1.2.2.2.1, ⟨hk.1.1.1.2.2.2.2.1, ⟨hk.1.1.1.2.2.2.2.2, hk.1.2⟩⟩⟩⟩⟩⟩⟩⟩))⟩; have cg : Zad (Kd.S (Kd.slice 2 (Kd.int .i64)) 33 aX w.heap.size (fun k_ => some k_ ≠ (.slice a5 aT.length a6 : Value).ownBlock ∧ some k_ ≠ (.slice aO aC.length aP : Value).ownBlock ∧ some k_ ≠ (.slice E x.length D : Value).ownBlock ∧ some k_ ≠ (.slice B v.length A : Value).ownBlock ∧ some k_ ≠ (.slice ag W.length ah : Value).ownBlock ∧ aD ≤ k_ ∧ k_ < X ∧ k_ < ae) (.slice I M.length J) M) := ⟨(by (with_reducible repeat (first | apply zI | apply zJ | apply zG)); exact zF m.out (fun _ hk => ⟨hk.1.1.2, ⟨hk.2, ⟨hk.1.1.1.2.1, ⟨hk.1.1.1.2.2.1, ⟨hk.1.1.1.1, ⟨hk.1.1.1.2.2.2.1, ⟨hk.1.1.1.2.2.2.2, hk.1.2⟩⟩⟩⟩⟩⟩⟩))⟩; have ch : Zad (Kd.S (Kd.slice 2 (Kd.int .i64)) 33 aX w.heap.size (fun k_ => some k_ ≠ (.slice a5 aT.length a6 : Value).ownBlock ∧ some k_ ≠ (.slice aO aC.length aP : Value).ownBlock ∧ some k_ ≠ (.slice E x.length D : Value).ownBlock ∧ some k_ ≠ (.slice I M.length J : Value).ownBlock ∧ some k_ ≠ (.slice ag W.length ah : Value).ownBlock ∧ X ≤ k_ ∧ k_ < ae) (.slice B v.length A) v) := ⟨(by (with_reducible repeat (first | apply zI | apply zJ | apply zG)); exact zF d.out (fun _ hk => ⟨hk.1.1.2, ⟨hk.2, ⟨hk.1.1.1.2.1, ⟨hk.1.1.1.2.2.1, ⟨hk.1.1.1.1, ⟨hk.1.1.1.2.2.2, hk.1.2⟩⟩⟩⟩⟩⟩))⟩; have ci : Zad (Kd.R (Kd.int .i64) 2 aX w.heap.size (fun k_ => some k_ ≠ (.slice aO aC.length aP : Value).ownBlock) (.slice ag W.length ah) W) := ⟨(by (with_reducible repeat (first | apply zD | apply zE | apply zA)); exact zC al.out (fun _ hk => hk.2))⟩; have cj : Zad (aX.heap[aL]? = some (.cells #[.int .i64 ar, .int .i64 au, .int .i64 av, .slice aM aj.length aN] 24 (0, 0))) := ⟨bP j.out⟩; have ck : Zad (aX.heap[y]? = some (.cells #[.int .i64 aa, .int .i64 ab, .int .i64 ad, .slice E x.length D] 26 (0, 0))) := ⟨bP a.out⟩; have cm : Zad (aX.heap[U]? = some (.cells #[.int .i64 aB, .int .i64 aF, .int .i64 aK, .slice I M.length J] 26 (0, 0))) := ⟨bP s.out⟩; have cn : Zad (aX.heap[q]? = some (.cells #[.int .i64 L, .int .i64 O, .int .i64 P, .slice B v.length A] 26 (0, 0))) := ⟨bP b.out⟩; have b2 : Zad (Below w.heap.size w aX) := ⟨bW⟩; clear aE aR l m d al j a s b HB; have aE := cd; have aR := ce; have l := cf; have m := cg; have d := ch; have al := ci; have j := cj; have a := ck; have s := cm; have b := cn; have HB := b2; clear cd ce cf cg ch ci cj ck cm cn b2)); have jk := bk.out; have jl := a0.out; have jm := aV.out; have jn := ay.out; have jo := ac.out; have jp := aW.out; obtain ⟨ez, eA, eB, eC⟩ := Zau s.out; obtain ⟨eD, eE, eF, eG⟩ := frz4 s.out) | ((with_reducible refine Zar (f := 14) rfl ?_); refine Za2 (some 64) Try.func14 #[.agg #[.int .i64 aB, .int .i64 aF, .int .i64 aK, .slice I M.length J], .int .i64 1] ?_; (with_reducible refine (Zcf.calls bi aB aF aK (fun k_ => (((((some k_ ≠ (.slice a5 aT.length a6 : Value).ownBlock ∧ (some k_ ≠ (.slice aO aC.length aP : Value).ownBlock ∧ (some k_ ≠ (.slice E x.length D : Value).ownBlock ∧ (some k_ ≠ (.slice B v.length A : Value).ownBlock ∧ (some k_ ≠ (.slice ag W.length ah : Value).ownBlock ∧ (aD ≤ k_ ∧ (k_ < X ∧ k_ < ae))))))) ∧ k_ ≠ aL) ∧ k_ ≠ y) ∧ k_ ≠ U) ∧ k_ ≠ q)) (.slice I M.length J) M 1 cA a2 w _ ?side1 ?side2 hB.out).mono ?_); (case side1 => repeat (first | (with_reducible first | exact HB.out | apply Zbe | apply Zbd | apply Za3 | refine Za7 ?_ bD.out | refine Za7 ?_ b5.out | refine Za7 ?_ b6.out | refine Za7 ?_ b7.out) | exact HB.out)); (case side2 => exact sP (zR (zR (zR (zR m.out j.out (by decide)) a.out (by decide)) s.out (by decide)) b.out (by decide))); rintro e kl ⟨rfl, bU, hb, hkp⟩; refine ⟨_, rfl, ?_⟩; replace al := mA (Kd.R_reok (ok := fun k_ => some k_ ≠ (.slice aO aC.length aP : Value).ownBlock) rfl (Kd.R_keptB (xL rfl (rP al.out)) hkp (fun k_ hk_ hs_ => (hs_.1.1.1.1.2.2.2.2.1) hk_)) (fun k_ e_ => (al.out.1 k_ e_))); replace l := mA (zF (ok' := fun k_ => some k_ ≠ (.slice ag W.length ah : Value).ownBlock ∧ some k_ ≠ (.slice I M.length J : Value).ownBlock ∧ some k_ ≠ (.slice B v.length A : Value).ownBlock ∧ some k_ ≠ (.slice a5 aT.length a6 : Value).ownBlock ∧ some k_ ≠ (.slice aO aC.length aP : Value).ownBlock ∧ a8 ≤ k_ ∧ k_ < aD ∧ k_ < X ∧ k_ < ae) (Kd.S_kept (sP l.out) hkp (fun k_ hk_ hs_ => by exact ltge (hk_.2.2.2.2.2.2.1) (hs_.1.1.1.1.2.2.2.2.2.1))) (fun k_ h_ => by exact ⟨h_.2.2.2.2.1, ⟨h_.2.2.1, ⟨h_.2.2.2.1, ⟨h_.1, ⟨h_.2.1, ⟨h_.2.2.2.2.2.1, ⟨h_.2.2.2.2.2.2.1, ⟨h_.2.2.2.2.2.2.2.1, h_.2.2.2.2.2.2.2.2⟩⟩⟩⟩⟩⟩⟩⟩)); replace m := mA (zF (ok' := fun k_ => some k_ ≠ (.slice ag W.length ah : Value).ownBlock ∧ some k_ ≠ (.slice E x.length D : Value).ownBlock ∧ some k_ ≠ (.slice B v.length A : Value).ownBlock ∧ some k_ ≠ (.slice a5 aT.length a6 : Value).ownBlock ∧ some k_ ≠ (.slice aO aC.length aP : Value).ownBlock ∧ aD ≤ k_ ∧ k_ < X ∧ k_ < ae) bU (fun k_ h_ => ⟨h_.1.1.1.1.2.2.2.2.1, ⟨h_.1.1.1.1.2.2.1, ⟨h_.1.1.1.1.2.2.2.1, ⟨h_.1.1.1.1.1, ⟨h_.1.1.1.1.2.1, ⟨h_.1.1.1.1.2.2.2.2.2.1, ⟨h_.1.1.1.1.2.2.2.2.2.2.1, h_.1.1.1.1.2.2.2.2.2.2.2⟩⟩⟩⟩⟩⟩⟩)); replace d := mA (zF (ok' := fun k_ => some k_ ≠ (.slice ag W.length ah : Value).ownBlock ∧ some k_ ≠ (.slice E x.length D : Value).ownBlock ∧ some k_ ≠ (.slice I M.length J : Value).ownBlock ∧ some k_ ≠ (.slice a5 aT.length a6 : Value).ownBlock ∧ some k_ ≠ (.slice aO aC.length aP : Value).ownBlock ∧ X ≤ k_ ∧ k_ < ae) (Kd.S_kept (sP d.out) hkp (fun k_ hk_ hs_ => by exact ltge (hs_.1.1.1.1.2.2.2.2.2.2.1) (hk_.2.2.2.2.2.1))) (fun k_ h_ => by exact ⟨h_.2.2.2.2.1, ⟨h_.2.2.1, ⟨h_.2.2.2.1, ⟨h_.1, ⟨h_.2.1, ⟨h_.2.2.2.2.2.1, h_.2.2.2.2.2.2⟩⟩⟩⟩⟩⟩)); replace j := mA (Zc8 (bP j.out) hkp (fun hs_ => (hs_.1.1.1.2) rfl)); replace a := mA (Zc8 (bP a.out) hkp (fun hs_ => (hs_.1.1.2) rfl)); replace s := mA (Zc8 (bP s.out) hkp (fun hs_ => (hs_.1.2) rfl)); replace b := mA (Zc8 (bP b.out) hkp (fun hs_ => (hs_.2) rfl)); replace aE := mA (zF (ok' := fun k_ => some k_ ≠ (.slice ag W.length ah : Value).ownBlock ∧ some k_ ≠ (.slice E x.length D : Value).ownBlock ∧ some k_ ≠ (.slice I M.length J : Value).ownBlock ∧ some k_ ≠ (.slice B v.length A : Value).ownBlock ∧ some k_ ≠ (.slice aO aC.length aP : Value).ownBlock ∧ ae ≤ k_) (Kd.S_kept (sP aE.out) hkp (fun k_ hk_ hs_ => by exact ltge (hs_.1.1.1.1.2.2.2.2.2.2.2) (hk_.2.2.2.2.2))) (fun k_ h_ => by exact ⟨h_.2.2.2.2.1, ⟨h_.2.1, ⟨h_.2.2.1, ⟨h_.2.2.2.1, ⟨h_.1, h_.2.2.2.2.2⟩⟩⟩⟩⟩)); replace aR := mA (Kd.R_reok (ok := fun k_ => some k_ ≠ (.slice ag W.length ah : Value).ownBlock) rfl (Kd.R_keptB (xL rfl (rP aR.out)) hkp (fun k_ hk_ hs_ => (hs_.1.1.1.1.2.1) hk_)) (fun k_ e_ => (aR.out.1 k_ e_))); replace HB := mA (hb); (try clear hb); (try clear hkp); (try clear bU)) | ((with_reducible refine Zar (f := 22) rfl ?_); refine Za2 (some 67) Try.func22 #[.slice ag W.length ah, .int .i64 cA] ?_; (with_reducible refine (Zbh.calls bi (fun k_ => some k_ = (.slice ag W.length ah : Value).ownBlock) (.slice ag W.length ah) W cA eR fl w _ ?side1 ?side2 hC.out).mono ?_); (case side1 => repeat (first | (with_reducible first | exact HB.out | apply Zbe | apply Zbd | apply Za3 | refine Za7 ?_ bD.out | refine Za7 ?_ b5.out | refine Za7 ?_ b6.out | refine Za7 ?_ b7.out) | exact HB.out)); (case side2 => exact xL rfl al.out); rintro e bd ⟨rfl, bU, hb, hkp⟩; refine ⟨_, rfl, ?_⟩; replace l := mA (zF (ok' := fun k_ => some k_ ≠ (.slice ag W.length ah : Value).ownBlock ∧ some k_ ≠ (.slice I M.length J : Value).ownBlock ∧ some k_ ≠ (.slice B v.length A : Value).ownBlock ∧ some k_ ≠ (.slice a5 aT.length a6 : Value).ownBlock ∧ some k_ ≠ (.slice aO aC.length aP : Value).ownBlock ∧ a8 ≤ k_ ∧ k_ < aD ∧ k_ < X ∧ k_ < ae) (Kd.S_keptB (l.out) hkp (fun k_ hk_ hs_ => (hk_.1) hs_)) (fun k_ hk_ => ⟨hk_.1.1, hk_.1.2.1, hk_.1.2.2.1, hk_.1.2.2.2.1, hk_.1.2.2.2.2.1, hk_.1.2.2.2.2.2.1, hk_.1.2.2.2.2.2.2.1, hk_.1.2.2.2.2.2.2.2.1, hk_.1.2.2.2.2.2.2.2.2⟩)); replace m := mA (zF (ok' := fun k_ => some k_ ≠ (.slice ag W.length ah : Value).ownBlock ∧ some k_ ≠ (.slice E x.length D : Value).ownBlock ∧ some k_ ≠ (.slice B v.length A : Value).ownBlock ∧ some k_ ≠ (.slice a5 aT.length a6 : Value).ownBlock ∧ some k_ ≠ (.slice aO aC.length aP : Value).ownBlock ∧ aD ≤ k_ ∧ k_ < X ∧ k_ < ae) (Kd.S_keptB (m.out) hkp (fun k_ hk_ hs_ => (hk_.1) hs_)) (fun k_ hk_ => ⟨hk_.1.1, hk_.1.2.1, hk_.1.2.2.1, hk_.1.2.2.2.1, hk_.1.2.2.2.2.1, hk_.1.2.2.2.2.2.1, hk_.1.2.2.2.2.2.2.1, hk_.1.2.2.2.2.2.2.2⟩)); replace d := mA (zF (ok' := fun k_ => some k_ ≠ (.slice ag W.length ah : Value).ownBlock ∧ some k_ ≠ (.slice E x.length D : Value).ownBlock ∧ some k_ ≠ (.slice I M.length J : Value).ownBlock ∧ some k_ ≠ (.slice a5 aT.length a6 : Value).ownBlock ∧ some k_ ≠ (.slice aO aC.length aP : Value).ownBlock ∧ X ≤ k_ ∧ k_ < ae) (Kd.S_keptB (d.out) hkp (fun k_ hk_ hs_ => (hk_.1) hs_)) (fun k_ hk_ => ⟨hk_.1.1, hk_.1.2.1, hk_.1.2.2.1, hk_.1.2.2.2.1, hk_.1.2.2.2.2.1, hk_.1.2.2.2.2.2.1, hk_.1.2.2.2.2.2.2⟩)); replace j := mA (Zc8 (bP j.out) hkp (fun hs_ => (fun e_ => (zQ al.out j.out (by decide)) e_) hs_)); replace a := mA (Zc8 (bP a.out) hkp (fun hs_ => (fun e_ => (zQ al.out a.out (by decide)) e_) hs_)); replace s := mA (Zc8 (bP s.out) hkp (fun hs_ => (fun e_ => (zQ al.out s.out (by decide)) e_) hs_)); replace b := mA (Zc8 (bP b.out) hkp (fun hs_ => (fun e_ => (zQ al.out b.out (by decide)) e_) hs_)); replace al := mA (Kd.R_reok rfl bU (fun k_ e_ => al.out.1 k_ e_)); replace aE := mA (zF (ok' := fun k_ => some k_ ≠ (.slice ag W.length ah : Value).ownBlock ∧ some k_ ≠ (.slice E x.length D : Value).ownBlock ∧ some k_ ≠ (.slice I M.length J : Value).ownBlock ∧ some k_ ≠ (.slice B v.length A : Value).ownBlock ∧ some k_ ≠ (.slice aO aC.length aP : Value).ownBlock ∧ ae ≤ k_) (Kd.S_keptB (aE.out) hkp (fun k_ hk_ hs_ => (hk_.1) hs_)) (fun k_ hk_ => ⟨hk_.1.1, hk_.1.2.1, hk_.1.2.2.1, hk_.1.2.2.2.1, hk_.1.2.2.2.2.1, hk_.1.2.2.2.2.2⟩)); replace aR := mA (zC (ok' := fun k_ => some k_ ≠ (.slice ag W.length ah : Value).ownBlock) (Kd.R_keptB (aR.out) hkp (fun k_ hk_ hs_ => (hk_) hs_)) (fun k_ hk_ => hk_.1)); replace HB := mA (hb); (try clear hb); (try clear hkp); (try clear bU)))
   (try simp only [Act.put, List.setIfInBounds_toArray, List.set_cons_zero, List.set_cons_succ])
   go_cut [80] (fun v80 wc => ∃ (kq : Nat) (bI : Bool), v80 = .bool bI ∧ Zad (Zat.j1 kq l1 bR bI ar au av aj aa ab ad x L O P v = some r) ∧ Zad (kq ≤ bi) ∧ Zad (Kd.S (Kd.slice 2 (Kd.int .i64)) 33 wc w.heap.size (fun k_ => some k_ ≠ ((.slice I M.length J) : Value).ownBlock ∧ some k_ ≠ ((.slice B v.length A) : Value).ownBlock ∧ a8 ≤ k_ ∧ k_ < aD ∧ k_ < X ∧ k_ < ae) (.slice E x.length D) x) ∧ Zad (Kd.S (Kd.slice 2 (Kd.int .i64)) 33 wc w.heap.size (fun k_ => some k_ ≠ ((.slice E x.length D) : Value).ownBlock ∧ some k_ ≠ ((.slice B v.length A) : Value).ownBlock ∧ aD ≤ k_ ∧ k_ < X ∧ k_ < ae) (.slice I M.length J) a2) ∧ Zad (Kd.S (Kd.slice 2 (Kd.int .i64)) 33 wc w.heap.size (fun k_ => some k_ ≠ ((.slice E x.length D) : Value).ownBlock ∧ some k_ ≠ ((.slice I M.length J) : Value).ownBlock ∧ X ≤ k_ ∧ k_ < ae) (.slice B v.length A) v) ∧ Zad (wc.heap[aL]? = some (.cells #[.int .i64 ar, .int .i64 au, .int .i64 av, (.slice aM aj.length aN)] 24 (0, 0))) ∧ Zad (wc.heap[y]? = some (.cells #[.int .i64 aa, .int .i64 ab, .int .i64 ad, (.slice E x.length D)] 26 (0, 0))) ∧ Zad (wc.heap[U]? = some (.cells #[.int .i64 aB, .int .i64 aF, .int .i64 aK, (.slice I M.length J)] 26 (0, 0))) ∧ Zad (wc.heap[q]? = some (.cells #[.int .i64 L, .int .i64 O, .int .i64 P, (.slice B v.length A)] 26 (0, 0))) ∧ Zad (Below w.heap.size w wc))
   case first =>
    have H := cB.out
    clear cB
    by_cases b3 : eR < 0
    ·rw [if_pos b3] at H
     have bJ := dT b3
     clear b3
     (first | rw [bJ] | (simp only [i64_w, i32_w]; rw [bJ]) | skip)
     have H' := mA H
     clear H
     go_wp2
     go_meet
     case rel => exact ⟨_, (true), (eW), H', ⟨by have := b1.out; first | omega | exact Nat.le_refl _⟩, ⟨by (with_reducible repeat (first | apply zI | apply zJ | apply zG)); exact zF l.out (fun _ hk => ⟨hk.2.1, ⟨hk.2.2.1, ⟨hk.2.2.2.2.2.1, ⟨hk.2.2.2.2.2.2.1, ⟨hk.2.2.2.2.2.2.2.1, hk.2.2.2.2.2.2.2.2⟩⟩⟩⟩⟩)⟩, ⟨by (with_reducible repeat (first | apply zI | apply zJ | apply zG)); exact zF m.out (fun _ hk => ⟨hk.2.1, ⟨hk.2.2.1, ⟨hk.2.2.2.2.2.1, ⟨hk.2.2.2.2.2.2.1, hk.2.2.2.2.2.2.2⟩⟩⟩⟩)⟩, ⟨by (with_reducible repeat (first | apply zI | apply zJ | apply zG)); exact zF d.out (fun _ hk => ⟨hk.2.1, ⟨hk.2.2.1, ⟨hk.2.2.2.2.2.1, hk.2.2.2.2.2.2⟩⟩⟩)⟩, ⟨bP j.out⟩, ⟨bP a.out⟩, ⟨bP s.out⟩, ⟨bP b.out⟩, ⟨bW⟩⟩
    rw [if_neg b3] at H
    have bJ := dF b3
    clear b3
    (first | rw [bJ] | (simp only [i64_w, i32_w]; rw [bJ]) | skip)
    replace H := bE H
    obtain ⟨fn, eT, H⟩ := H
    have fb := mA eT
    clear eT
    by_cases dw : fn = true
    ·subst dw
     rw [if_pos rfl] at H
     have H' := mA H
     clear H
     have jq := a1.out
     have jr := ai.out
     have js := aS.out
     have jt := Y.out
     have ju := aW.out
     have jv := ac.out
     have gZ : bd.cell? ⟨q, 0, none⟩ = some (.int .i64 L) := bc b 0
     have g0 : bd.cell? ⟨q, 1, none⟩ = some (.int .i64 O) := bc b 1
     have g1 : bd.cell? ⟨q, 2, none⟩ = some (.int .i64 P) := bc b 2
     have g2 : bd.cell? ⟨q, 3, none⟩ = some (.slice B v.length A) := bc b 3
     have g3 := Zae b.out 0
     have g4 := Zae b.out 1
     have g5 := Zae b.out 2
     have g6 := Zae b.out 3
     have jw := aU.out
     have jx := ax.out
     have jy := ay.out
     have jz := aV.out
     have g7 : bd.cell? ⟨y, 0, none⟩ = some (.int .i64 aa) := bc a 0
     have g8 : bd.cell? ⟨y, 1, none⟩ = some (.int .i64 ab) := bc a 1
     have g9 : bd.cell? ⟨y, 2, none⟩ = some (.int .i64 ad) := bc a 2
     have ha : bd.cell? ⟨y, 3, none⟩ = some (.slice E x.length D) := bc a 3
     have hc := Zae a.out 0
     have hd := Zae a.out 1
     have he := Zae a.out 2
     have hf := Zae a.out 3
     go_wp2_with (first | (go_at_call 13; (with_reducible refine (Zbj.calls bi L O P _ _ v aa ab ad _ _ x true _ ?side1 ?side2 ?side3 ?side4 fb.out).mono ?_); (case side1 => exact cP ((zW d.out).2.2)); (case side2 => exact (zW d.out).2.1); (case side3 => exact cP ((zW l.out).2.2)); (case side4 => exact (zW l.out).2.1); rintro e km ⟨rfl, hb⟩; replace al := mA (zM (rP al.out) hb); replace l := mA (zS (sP l.out) hb); replace m := mA (zS (sP m.out) hb); replace d := mA (zS (sP d.out) hb); replace aE := mA (zS (sP aE.out) hb); replace aR := mA (zM (rP aR.out) hb); replace j := mA (blkB j.out hb); replace a := mA (blkB a.out hb); replace s := mA (blkB s.out hb); replace b := mA (blkB b.out hb); replace HB := mA (Zaf (bW) hb); (try clear hb); (try clear hb2); (try clear hk); (try clear hi)))
     go_meet
     case rel => exact ⟨_, ((b4 != bR)), (eW), H', ⟨by have := b1.out; first | omega | exact Nat.le_refl _⟩, ⟨by (with_reducible repeat (first | apply zI | apply zJ | apply zG)); exact zF l.out (fun _ hk => ⟨hk.2.1, ⟨hk.2.2.1, ⟨hk.2.2.2.2.2.1, ⟨hk.2.2.2.2.2.2.1, ⟨hk.2.2.2.2.2.2.2.1, hk.2.2.2.2.2.2.2.2⟩⟩⟩⟩⟩)⟩, ⟨by (with_reducible repeat (first | apply zI | apply zJ | apply zG)); exact zF m.out (fun _ hk => ⟨hk.2.1, ⟨hk.2.2.1, ⟨hk.2.2.2.2.2.1, ⟨hk.2.2.2.2.2.2.1, hk.2.2.2.2.2.2.2⟩⟩⟩⟩)⟩, ⟨by (with_reducible repeat (first | apply zI | apply zJ | apply zG)); exact zF d.out (fun _ hk => ⟨hk.2.1, ⟨hk.2.2.1, ⟨hk.2.2.2.2.2.1, hk.2.2.2.2.2.2⟩⟩⟩)⟩, ⟨bP j.out⟩, ⟨bP a.out⟩, ⟨bP s.out⟩, ⟨bP b.out⟩, ⟨bW⟩⟩
    replace dw := Bool.eq_false_iff.mpr dw
    subst dw
    rw [iF] at H
    have H' := mA H
    clear H
    have jA := a1.out
    have jB := ai.out
    have jC := aS.out
    have jD := Y.out
    have hG := aW.out
    have hH := ac.out
    have fo : bd.cell? ⟨q, 0, none⟩ = some (.int .i64 L) := bc b 0
    have fp : bd.cell? ⟨q, 1, none⟩ = some (.int .i64 O) := bc b 1
    have fq : bd.cell? ⟨q, 2, none⟩ = some (.int .i64 P) := bc b 2
    have fr : bd.cell? ⟨q, 3, none⟩ = some (.slice B v.length A) := bc b 3
    have fs := Zae b.out 0
    have ft := Zae b.out 1
    have fu := Zae b.out 2
    have fv := Zae b.out 3
    have hI := aU.out
    have hJ := ax.out
    have hL := ay.out
    have hM := aV.out
    have fw : bd.cell? ⟨y, 0, none⟩ = some (.int .i64 aa) := bc a 0
    have fx : bd.cell? ⟨y, 1, none⟩ = some (.int .i64 ab) := bc a 1
    have fy : bd.cell? ⟨y, 2, none⟩ = some (.int .i64 ad) := bc a 2
    have fz : bd.cell? ⟨y, 3, none⟩ = some (.slice E x.length D) := bc a 3
    have fA := Zae a.out 0
    have fB := Zae a.out 1
    have fC := Zae a.out 2
    have fD := Zae a.out 3
    go_wp2_with (first | (go_at_call 13; (with_reducible refine (Zbj.calls bi L O P _ _ v aa ab ad _ _ x false _ ?side1 ?side2 ?side3 ?side4 fb.out).mono ?_); (case side1 => exact cP ((zW d.out).2.2)); (case side2 => exact (zW d.out).2.1); (case side3 => exact cP ((zW l.out).2.2)); (case side4 => exact (zW l.out).2.1); rintro e jR ⟨rfl, hb⟩; replace al := mA (zM (rP al.out) hb); replace l := mA (zS (sP l.out) hb); replace m := mA (zS (sP m.out) hb); replace d := mA (zS (sP d.out) hb); replace aE := mA (zS (sP aE.out) hb); replace aR := mA (zM (rP aR.out) hb); replace j := mA (blkB j.out hb); replace a := mA (blkB a.out hb); replace s := mA (blkB s.out hb); replace b := mA (blkB b.out hb); replace HB := mA (Zaf (bW) hb); (try clear hb); (try clear hb2); (try clear hk); (try clear hi)))
    go_meet
    case rel => exact ⟨_, (true), (eW), H', ⟨by have := b1.out; first | omega | exact Nat.le_refl _⟩, ⟨by (with_reducible repeat (first | apply zI | apply zJ | apply zG)); exact zF l.out (fun _ hk => ⟨hk.2.1, ⟨hk.2.2.1, ⟨hk.2.2.2.2.2.1, ⟨hk.2.2.2.2.2.2.1, ⟨hk.2.2.2.2.2.2.2.1, hk.2.2.2.2.2.2.2.2⟩⟩⟩⟩⟩)⟩, ⟨by (with_reducible repeat (first | apply zI | apply zJ | apply zG)); exact zF m.out (fun _ hk => ⟨hk.2.1, ⟨hk.2.2.1, ⟨hk.2.2.2.2.2.1, ⟨hk.2.2.2.2.2.2.1, hk.2.2.2.2.2.2.2⟩⟩⟩⟩)⟩, ⟨by (with_reducible repeat (first | apply zI | apply zJ | apply zG)); exact zF d.out (fun _ hk => ⟨hk.2.1, ⟨hk.2.2.1, ⟨hk.2.2.2.2.2.1, hk.2.2.2.2.2.2⟩⟩⟩)⟩, ⟨bP j.out⟩, ⟨bP a.out⟩, ⟨bP s.out⟩, ⟨bP b.out⟩, ⟨bW⟩⟩
   case rest =>
    clear cB ez eA eB eC eD eE eF eG
    obtain ⟨kq, bI, rfl, HA, eU, l, m, d, j, a, s, b, HB⟩ := hcut
    have z := (zW m.out).1
    rw [z] at m
    (try simp only [z])
    (try simp only [z] at j)
    (try simp only [z] at a)
    (try simp only [z] at s)
    (try simp only [z] at b)
    (try simp only [z] at l)
    (try simp only [z] at d)
    cases kq with
    | zero => exact absurd HA.out (by simp [Zat.j1])
    | succ bl =>
     have H := HA.out
     clear HA
     simp only [Zat.j1] at H
     by_cases b8 : bI = true
     ·subst b8
      rw [if_pos rfl] at H
      exact absurd (oI H) (by rw [HTr_.out]; decide)
     replace b8 := Bool.eq_false_iff.mpr b8
     subst b8
     rw [iF] at H
     replace H := bE H
     obtain ⟨⟨ba, bh⟩, A1070, H⟩ := H
     try dsimp only at H
     have fE := mA A1070
     clear A1070
     replace H := bE H
     obtain ⟨bw, dx, H⟩ := H
     have fF := mA dx
     clear dx
     by_cases bS : bw < 0
     ·rw [if_pos bS] at H
      have co := dT bS
      clear bS
      exact absurd (oI H) (by rw [HTr_.out]; decide)
     rw [if_neg bS] at H
     have co := dF bS
     clear bS
     by_cases bx : bw = ba; rotate_left
     ·rw [if_neg bx] at H
      have cp : (bw == ba) = false := beq_eq_false_iff_ne.mpr bx
      have cq : (bw != ba) = true := bne_iff_ne.mpr bx
      exact absurd (oI H) (by rw [HTr_.out]; decide)
     rw [if_pos bx] at H
     have cp : (bw == ba) = true := beq_iff_eq.mpr bx
     have cq : (bw != ba) = false := bne_eq_false_iff_eq.mpr bx
     clear bx
     replace H := bE H
     obtain ⟨⟨cC, cD, cE, bz⟩, A1110, H⟩ := H
     try dsimp only at H
     have fG := mA A1110
     clear A1110
     replace H := bE H
     obtain ⟨bA, dy, H⟩ := H
     have fH := mA dy
     clear dy
     replace H := bE H
     obtain ⟨⟨aw, aA, aG, am, eV⟩, A1130, H⟩ := H
     try dsimp only at H
     have fI := mA A1130
     clear A1130
     have b9 := mA H
     clear H
     have hN := a1.out
     have hO := ai.out
     have hP := aS.out
     have hQ := Y.out
     have hR := aW.out
     have hS := ac.out
     have cF : wc.cell? ⟨q, 0, none⟩ = some (.int .i64 L) := bc b 0
     have cG : wc.cell? ⟨q, 1, none⟩ = some (.int .i64 O) := bc b 1
     have cH : wc.cell? ⟨q, 2, none⟩ = some (.int .i64 P) := bc b 2
     have cI : wc.cell? ⟨q, 3, none⟩ = some (.slice B v.length A) := bc b 3
     have cJ := Zae b.out 0
     have cK := Zae b.out 1
     have cL := Zae b.out 2
     have cM := Zae b.out 3
     go_upto_region 31 with (first | ((with_reducible refine Zar (f := 14) rfl ?_); refine Za2 (some 83) Try.func14 #[.agg #[.int .i64 L, .int .i64 O, .int .i64 P, .slice B v.length A], .int .i64 1] ?_; (with_reducible refine (Zcf.calls bl L O P (fun k_ => (((((some k_ ≠ (.slice E x.length D : Value).ownBlock ∧ (some k_ ≠ (.slice I a2.length J : Value).ownBlock ∧ (X ≤ k_ ∧ k_ < ae))) ∧ k_ ≠ aL) ∧ k_ ≠ y) ∧ k_ ≠ U) ∧ k_ ≠ q)) (.slice B v.length A) v 1 ba bh w _ ?side1 ?side2 fE.out).mono ?_); (case side1 => repeat (first | (with_reducible first | exact HB.out | apply Zbe | apply Zbd | apply Za3 | refine Za7 ?_ bD.out | refine Za7 ?_ b5.out | refine Za7 ?_ b6.out | refine Za7 ?_ b7.out) | exact HB.out)); (case side2 => exact sP (zR (zR (zR (zR d.out j.out (by decide)) a.out (by decide)) s.out (by decide)) b.out (by decide))); rintro e jS ⟨rfl, bU, hb, hkp⟩; refine ⟨_, rfl, ?_⟩; replace l := mA (zF (ok' := fun k_ => some k_ ≠ (.slice I a2.length J : Value).ownBlock ∧ some k_ ≠ (.slice B v.length A : Value).ownBlock ∧ a8 ≤ k_ ∧ k_ < aD ∧ k_ < X ∧ k_ < ae) (Kd.S_kept (sP l.out) hkp (fun k_ hk_ hs_ => by exact ltge (hk_.2.2.2.2.1) (hs_.1.1.1.1.2.2.1))) (fun k_ h_ => by exact ⟨h_.1, ⟨h_.2.1, ⟨h_.2.2.1, ⟨h_.2.2.2.1, ⟨h_.2.2.2.2.1, h_.2.2.2.2.2⟩⟩⟩⟩⟩)); replace m := mA (zF (ok' := fun k_ => some k_ ≠ (.slice E x.length D : Value).ownBlock ∧ some k_ ≠ (.slice B v.length A : Value).ownBlock ∧ aD ≤ k_ ∧ k_ < X ∧ k_ < ae) (Kd.S_kept (sP m.out) hkp (fun k_ hk_ hs_ => by exact ltge (hk_.2.2.2.1) (hs_.1.1.1.1.2.2.1))) (fun k_ h_ => by exact ⟨h_.1, ⟨h_.2.1, ⟨h_.2.2.1, ⟨h_.2.2.2.1, h_.2.2.2.2⟩⟩⟩⟩)); replace d := mA (zF (ok' := fun k_ => some k_ ≠ (.slice E x.length D : Value).ownBlock ∧ some k_ ≠ (.slice I a2.length J : Value).ownBlock ∧ X ≤ k_ ∧ k_ < ae) bU (fun k_ h_ => ⟨h_.1.1.1.1.1, ⟨h_.1.1.1.1.2.1, ⟨h_.1.1.1.1.2.2.1, h_.1.1.1.1.2.2.2⟩⟩⟩)); replace j := mA (Zc8 (bP j.out) hkp (fun hs_ => (hs_.1.1.1.2) rfl)); replace a := mA (Zc8 (bP a.out) hkp (fun hs_ => (hs_.1.1.2) rfl)); replace s := mA (Zc8 (bP s.out) hkp (fun hs_ => (hs_.1.2) rfl)); replace b := mA (Zc8 (bP b.out) hkp (fun hs_ => (hs_.2) rfl)); replace HB := mA (hb); (try clear hb); (try clear hkp); (try clear bU); obtain ⟨cN, cO, cQ, cR⟩ := Zau b.out; obtain ⟨cS, cT, cU, cV⟩ := frz4 b.out) | ((with_reducible refine Zar (f := 15) rfl ?_); refine goesL_ (some 86) rfl rfl Try.func15 (by kernel_rfl) rfl #[.agg #[.int .i64 L, .int .i64 O, .int .i64 P, .slice B bh.length A], .int .i64 1] rfl (by (try simp only [List.map_toArray, List.map_cons, List.map_nil]); first | done | (rw [show bh.length = v.length from (zW d.out).1.symm] <;> rfl) | rfl | (simp only [List.length_drop, List.length_take]; rfl)) ?_; (with_reducible refine (Zb6.calls bl L O P _ _ bh 1 bw _ ?side1 ?side2 fF.out).mono ?_); (case side1 => exact cP ((zW d.out).2.2)); (case side2 => rw [show bh.length = v.length from (zW d.out).1.symm]; exact (zW d.out).2.1); rintro e jT ⟨rfl, hb⟩; refine ⟨_, rfl, ?_⟩; replace l := mA (zS (sP l.out) hb); replace m := mA (zS (sP m.out) hb); replace d := mA (zS (sP d.out) hb); replace j := mA (blkB j.out hb); replace a := mA (blkB a.out hb); replace s := mA (blkB s.out hb); replace b := mA (blkB b.out hb); replace HB := mA (Zaf (bW) hb); (try clear hb); (try clear hb2); (try clear hk); (try clear hi); have hT := ax.out; have hU := aU.out; have hV := a0.out; have hW := bk.out; obtain ⟨cW, cX, cY, cZ⟩ := Zau j.out; obtain ⟨c0, da, db, dc⟩ := frz4 j.out) | ((with_reducible refine Zar (f := 11) rfl ?_); refine Za2 (some 94) Try.func11 #[.agg #[.int .i64 ar, .int .i64 au, .int .i64 av, .slice aM aj.length aN]] ?_; (with_reducible refine (Zbr.calls bl ar au av _ _ aj cC cD cE bz _ ?side1 ?side2 fG.out).mono ?_); (case side1 => exact cP (zL br.out HB.out)); (case side2 => exact bs.out); rintro e jU ⟨jV, rfl, T, hb⟩; refine ⟨_, rfl, ?_⟩; obtain ⟨bK, bL⟩ := sizeI hb; have aZ := mA (yR (yI (yI (yI (Kd.S_newI T bL) (yO (sP l.out))) (yO (sP m.out))) (yO (sP d.out))) (Zan (bW))); replace l := mA (Kd.S_elderI (sP l.out) (yN T) hb bL); replace m := mA (Kd.S_elderI (sP m.out) (yN T) hb bL); replace d := mA (Kd.S_elderI (sP d.out) (yN T) hb bL); replace j := mA (blkB j.out hb); replace a := mA (blkB a.out hb); replace s := mA (blkB s.out hb); replace b := mA (blkB b.out hb); replace HB := mA (Zaf (bW) hb); (try clear hb); (try clear hb2); (try clear hk); (try clear hi); (try clear T)) | ((with_reducible refine Zar (f := 19) rfl ?_); refine Za2 (some 96) Try.func19 #[.slice A1 l1.length c1] ?_; (with_reducible refine (Zba.calls bl _ _ l1 bA _ ?side1 ?side2 fH.out).mono ?_); (case side1 => exact cP (zL dn.out HB.out)); (case side2 => exact dp.out); rintro e jW ⟨jX, rfl, T, hb⟩; refine ⟨_, rfl, ?_⟩; replace l := mA (yK (sP l.out) (zT T) hb); replace m := mA (yK (sP m.out) (zT T) hb); replace d := mA (yK (sP d.out) (zT T) hb); replace aZ := mA (yK (sP aZ.out) (zT T) hb); have a9 := mA (zV T (Zan (bW))); replace j := mA (blkB j.out hb); replace a := mA (blkB a.out hb); replace s := mA (blkB s.out hb); replace b := mA (blkB b.out hb); replace HB := mA (Zaf (bW) hb); (try clear hb); (try clear hb2); (try clear hk); (try clear hi); (try clear T); obtain ⟨bM, bN, e1⟩ := yD aZ.out; subst e1; obtain ⟨bO, bQ, e2⟩ := zP a9.out; subst e2) | ((with_reducible refine Zar (f := 20) rfl ?_); refine Za2 (some 97) Try.func20 #[.agg #[.int .i64 cC, .int .i64 cD, .int .i64 cE, .slice bM bz.length bN], .slice bO bA.length bQ] ?_; (with_reducible refine (Zci.calls bl cC cD cE _ _ bz _ _ bA aw aA aG am eV _ ?side1 ?side2 ?side3 ?side4 fI.out).mono ?_); (case side1 => exact cP ((zW aZ.out).2.2)); (case side2 => exact (zW aZ.out).2.1); (case side3 => exact cP ((zK a9.out).2.2)); (case side4 => exact (zK a9.out).2.1); rintro e jY ⟨jZ, rfl, T, hb⟩; refine ⟨_, rfl, ?_⟩; obtain ⟨bf, bm⟩ := sizeI hb; have a4 := mA (yR (yI (yI (yI (yI (yI (Kd.S_newI T bm) (yO (sP l.out))) (yO (sP m.out))) (yO (sP d.out))) (yO (sP aZ.out))) (zN (rP a9.out))) (Zan (bW))); replace l := mA (Kd.S_elderI (sP l.out) (yN T) hb bm); replace m := mA (Kd.S_elderI (sP m.out) (yN T) hb bm); replace d := mA (Kd.S_elderI (sP d.out) (yN T) hb bm); replace aZ := mA (Kd.S_elderI (sP aZ.out) (yN T) hb bm); replace a9 := mA (zM (rP a9.out) hb); replace j := mA (blkB j.out hb); replace a := mA (blkB a.out hb); replace s := mA (blkB s.out hb); replace b := mA (blkB b.out hb); replace HB := mA (Zaf (bW) hb); (try clear hb); (try clear hb2); (try clear hk); (try clear hi); (try clear T)) | ((with_reducible refine Zap (N := 15) rfl ?_); refine boxS (N := 15) (cs := #[.int .i64 0, .int .i64 0, .int .i64 0, .slice none 0 0]) (t := 26) ?_; intro u hg a7 hbox hb; replace l := mA (zS (sP l.out) hb); replace m := mA (zS (sP m.out) hb); replace d := mA (zS (sP d.out) hb); replace aZ := mA (zS (sP aZ.out) hb); replace a9 := mA (zM (rP a9.out) hb); replace a4 := mA (zS (sP a4.out) hb); have G := mA (hbox); have jE := geW (w := w) hg; have jF := geW (w := w) hg; replace HB := mA (Zaf (bW) hb); have aH := mA (neB hg j); have bn := mA (neC hg j); replace j := mA (blkB j.out hb); have aI := mA (neB hg a); have bo := mA (neC hg a); replace a := mA (blkB a.out hb); have aJ := mA (neB hg s); have bp := mA (neC hg s); replace s := mA (blkB s.out hb); have az := mA (neB hg b); have bg := mA (neC hg b); replace b := mA (blkB b.out hb); clear hb hbox hg; have hX := bn.out; have hY := aH.out; have hZ := bo.out; have h0 := aI.out; have h1 := bp.out; have h2 := aJ.out; have h3 := bg.out; have h4 := az.out; obtain ⟨dd, de, df, dg⟩ := Zau G.out; obtain ⟨dh, di, dj, dk⟩ := frz4 G.out; obtain ⟨ak, af, e3⟩ := yD a4.out; subst e3))
     (try simp only [Act.put, List.setIfInBounds_toArray, List.set_cons_zero, List.set_cons_succ])
     go_cut [108] (fun v108 wc => ∃ (kq : Nat) (bj : Bool), v108 = .bool bj ∧ Zad (Zat.j2 kq ba bj L O P bh = some r) ∧ Zad (kq ≤ bl) ∧ Zad (Kd.S (Kd.slice 2 (Kd.int .i64)) 33 wc w.heap.size (fun k_ => some k_ ≠ ((.slice I a2.length J) : Value).ownBlock ∧ some k_ ≠ ((.slice B v.length A) : Value).ownBlock ∧ some k_ ≠ ((.slice ak am.length af) : Value).ownBlock ∧ a8 ≤ k_ ∧ k_ < aD ∧ k_ < X ∧ k_ < ae ∧ k_ < bK ∧ k_ < bf) (.slice E x.length D) x) ∧ Zad (Kd.S (Kd.slice 2 (Kd.int .i64)) 33 wc w.heap.size (fun k_ => some k_ ≠ ((.slice E x.length D) : Value).ownBlock ∧ some k_ ≠ ((.slice B v.length A) : Value).ownBlock ∧ some k_ ≠ ((.slice ak am.length af) : Value).ownBlock ∧ aD ≤ k_ ∧ k_ < X ∧ k_ < ae ∧ k_ < bK ∧ k_ < bf) (.slice I a2.length J) a2) ∧ Zad (Kd.S (Kd.slice 2 (Kd.int .i64)) 33 wc w.heap.size (fun k_ => some k_ ≠ ((.slice E x.length D) : Value).ownBlock ∧ some k_ ≠ ((.slice I a2.length J) : Value).ownBlock ∧ some k_ ≠ ((.slice ak am.length af) : Value).ownBlock ∧ X ≤ k_ ∧ k_ < ae ∧ k_ < bK ∧ k_ < bf) (.slice B v.length A) bh) ∧ Zad (Kd.S (Kd.slice 2 (Kd.int .i64)) 33 wc w.heap.size (fun k_ => some k_ ≠ ((.slice E x.length D) : Value).ownBlock ∧ some k_ ≠ ((.slice I a2.length J) : Value).ownBlock ∧ some k_ ≠ ((.slice B v.length A) : Value).ownBlock ∧ bf ≤ k_) (.slice ak am.length af) am) ∧ Zad (wc.heap[aL]? = some (.cells #[.int .i64 ar, .int .i64 au, .int .i64 av, (.slice aM aj.length aN)] 24 (0, 0))) ∧ Zad (wc.heap[y]? = some (.cells #[.int .i64 aa, .int .i64 ab, .int .i64 ad, (.slice E x.length D)] 26 (0, 0))) ∧ Zad (wc.heap[U]? = some (.cells #[.int .i64 aB, .int .i64 aF, .int .i64 aK, (.slice I a2.length J)] 26 (0, 0))) ∧ Zad (wc.heap[q]? = some (.cells #[.int .i64 L, .int .i64 O, .int .i64 P, (.slice B v.length A)] 26 (0, 0))) ∧ Zad (wc.heap[u]? = some (.cells #[.int .i64 aw, .int .i64 aA, .int .i64 aG, (.slice ak am.length af)] 26 (0, 0))) ∧ Zad (Below w.heap.size w wc))
     case first =>
      have H := b9.out
      clear b9
      replace H := bE H
      obtain ⟨fJ, dz, H⟩ := H
      have eX := mA dz
      clear dz
      by_cases ca : fJ = true
      ·subst ca
       rw [if_pos rfl] at H
       have H' := mA H
       clear H
       have h5 := bn.out
       have h6 := aH.out
       have h7 := bo.out
       have h8 := aI.out
       have h9 := bp.out
       have ia := aJ.out
       have ib := bg.out
       have ic := az.out
       have fK : a7.cell? ⟨u, 0, none⟩ = some (.int .i64 0) := bc G 0
       have fL : a7.cell? ⟨u, 1, none⟩ = some (.int .i64 0) := bc G 1
       have fM : a7.cell? ⟨u, 2, none⟩ = some (.int .i64 0) := bc G 2
       have fN : a7.cell? ⟨u, 3, none⟩ = some (.slice none 0 0) := bc G 3
       have fO := Zae G.out 0
       have fP := Zae G.out 1
       have fQ := Zae G.out 2
       have fR := Zae G.out 3
       have ie := aU.out
       have ig := ax.out
       have ih := ay.out
       have ii := aV.out
       have ij := Y.out
       have ik := aS.out
       have fS : a7.cell? ⟨y, 0, none⟩ = some (.int .i64 aa) := bc a 0
       have fT : a7.cell? ⟨y, 1, none⟩ = some (.int .i64 ab) := bc a 1
       have fU : a7.cell? ⟨y, 2, none⟩ = some (.int .i64 ad) := bc a 2
       have fV : a7.cell? ⟨y, 3, none⟩ = some (.slice E x.length D) := bc a 3
       have fW := Zae a.out 0
       have fX := Zae a.out 1
       have fY := Zae a.out 2
       have fZ := Zae a.out 3
       go_wp2_with (first | ((with_reducible refine Zar (f := 13) rfl ?_); refine Za2 (some 102) Try.func13 #[.agg #[.int .i64 aw, .int .i64 aA, .int .i64 aG, .slice ak am.length af], .agg #[.int .i64 aa, .int .i64 ab, .int .i64 ad, .slice E x.length D]] ?_; (with_reducible refine (Zbj.calls bl aw aA aG _ _ am aa ab ad _ _ x true _ ?side1 ?side2 ?side3 ?side4 eX.out).mono ?_); (case side1 => refine (zW (e := 33) (base := w.heap.size) (ok := fun k_ => ((((((True ∧ bf ≤ k_) ∧ some k_ ≠ (.slice E x.length D : Value).ownBlock) ∧ some k_ ≠ (.slice I a2.length J : Value).ownBlock) ∧ some k_ ≠ (.slice B v.length A : Value).ownBlock) ∧ some k_ ≠ (.slice bM bz.length bN : Value).ownBlock) ∧ some k_ ≠ (.slice bO bA.length bQ : Value).ownBlock)) (n := am.length) (c := af) ?_).2.2; exact (by (with_reducible repeat (first | apply zI | apply zJ | apply zG)); exact (zF (zB (p := ⟨u, 3, none⟩) (zB (p := ⟨u, 2, none⟩) (zB (p := ⟨u, 1, none⟩) (zB (p := ⟨u, 0, none⟩) (zR a4.out G.out (by decide)) (fun _ hk => hk.2) (.int .i64 aw)) (fun _ hk => hk.2) (.int .i64 aA)) (fun _ hk => hk.2) (.int .i64 aG)) (fun _ hk => hk.2) (.slice ak am.length af)) (fun _ h_ => h_.1)))); (case side2 => exact (zW a4.out).2.1); (case side3 => refine (zW (e := 33) (base := w.heap.size) (ok := fun k_ => ((((((some k_ ≠ (.slice I a2.length J : Value).ownBlock ∧ (some k_ ≠ (.slice B v.length A : Value).ownBlock ∧ (a8 ≤ k_ ∧ (k_ < aD ∧ (k_ < X ∧ k_ < ae))))) ∧ some k_ ≠ (.slice bM bz.length bN : Value).ownBlock) ∧ k_ < bK) ∧ some k_ ≠ (.slice bO bA.length bQ : Value).ownBlock) ∧ some k_ ≠ (.slice ak am.length af : Value).ownBlock) ∧ k_ < bf)) (n := x.length) (c := D) ?_).2.2; exact (by (with_reducible repeat (first | apply zI | apply zJ | apply zG)); exact (zF (zB (p := ⟨u, 3, none⟩) (zB (p := ⟨u, 2, none⟩) (zB (p := ⟨u, 1, none⟩) (zB (p := ⟨u, 0, none⟩) (zR l.out G.out (by decide)) (fun _ hk => hk.2) (.int .i64 aw)) (fun _ hk => hk.2) (.int .i64 aA)) (fun _ hk => hk.2) (.int .i64 aG)) (fun _ hk => hk.2) (.slice ak am.length af)) (fun _ h_ => h_.1)))); (case side4 => exact (zW l.out).2.1); rintro e j5 ⟨rfl, hb⟩; refine ⟨_, rfl, ?_⟩; replace l := mA (zS (by (with_reducible repeat (first | apply zI | apply zJ | apply zG)); exact (zF (zB (p := ⟨u, 3, none⟩) (zB (p := ⟨u, 2, none⟩) (zB (p := ⟨u, 1, none⟩) (zB (p := ⟨u, 0, none⟩) (zR l.out G.out (by decide)) (fun _ hk => hk.2) (.int .i64 aw)) (fun _ hk => hk.2) (.int .i64 aA)) (fun _ hk => hk.2) (.int .i64 aG)) (fun _ hk => hk.2) (.slice ak am.length af)) (fun _ h_ => h_.1))) hb); replace m := mA (zS (by (with_reducible repeat (first | apply zI | apply zJ | apply zG)); exact (zF (zB (p := ⟨u, 3, none⟩) (zB (p := ⟨u, 2, none⟩) (zB (p := ⟨u, 1, none⟩) (zB (p := ⟨u, 0, none⟩) (zR m.out G.out (by decide)) (fun _ hk => hk.2) (.int .i64 aw)) (fun _ hk => hk.2) (.int .i64 aA)) (fun _ hk => hk.2) (.int .i64 aG)) (fun _ hk => hk.2) (.slice ak am.length af)) (fun _ h_ => h_.1))) hb); replace d := mA (zS (by (with_reducible repeat (first | apply zI | apply zJ | apply zG)); exact (zF (zB (p := ⟨u, 3, none⟩) (zB (p := ⟨u, 2, none⟩) (zB (p := ⟨u, 1, none⟩) (zB (p := ⟨u, 0, none⟩) (zR d.out G.out (by decide)) (fun _ hk => hk.2) (.int .i64 aw)) (fun _ hk => hk.2) (.int .i64 aA)) (fun _ hk => hk.2) (.int .i64 aG)) (fun _ hk => hk.2) (.slice ak am.length af)) (fun _ h_ => h_.1))) hb); replace aZ := mA (zS (by (with_reducible repeat (first | apply zI | apply zJ | apply zG)); exact (zF (zB (p := ⟨u, 3, none⟩) (zB (p := ⟨u, 2, none⟩) (zB (p := ⟨u, 1, none⟩) (zB (p := ⟨u, 0, none⟩) (zR aZ.out G.out (by decide)) (fun _ hk => hk.2) (.int .i64 aw)) (fun _ hk => hk.2) (.int .i64 aA)) (fun _ hk => hk.2) (.int .i64 aG)) (fun _ hk => hk.2) (.slice ak am.length af)) (fun _ h_ => h_.1))) hb); replace a9 := mA (zM (by (with_reducible repeat (first | apply zD | apply zE | apply zA)); exact (zC (zH (p := ⟨u, 3, none⟩) (zH (p := ⟨u, 2, none⟩) (zH (p := ⟨u, 1, none⟩) (zH (p := ⟨u, 0, none⟩) (zX a9.out G.out (by decide)) (fun _ hk => hk.2) (.int .i64 aw)) (fun _ hk => hk.2) (.int .i64 aA)) (fun _ hk => hk.2) (.int .i64 aG)) (fun _ hk => hk.2) (.slice ak am.length af)) (fun _ h_ => h_.1))) hb); replace a4 := mA (zS (by (with_reducible repeat (first | apply zI | apply zJ | apply zG)); exact (zF (zB (p := ⟨u, 3, none⟩) (zB (p := ⟨u, 2, none⟩) (zB (p := ⟨u, 1, none⟩) (zB (p := ⟨u, 0, none⟩) (zR a4.out G.out (by decide)) (fun _ hk => hk.2) (.int .i64 aw)) (fun _ hk => hk.2) (.int .i64 aA)) (fun _ hk => hk.2) (.int .i64 aG)) (fun _ hk => hk.2) (.slice ak am.length af)) (fun _ h_ => h_.1))) hb); replace j := mA (Za1 (g := aL) (o := .cells #[.int .i64 ar, .int .i64 au, .int .i64 av, .slice aM aj.length aN] 24 (0, 0)) (by (with_reducible repeat (first | refine Zac ?_ _ | refine Zab ?_ | refine Zaa ?_ _)); refine Zak ?_ aH.out _; (with_reducible repeat (first | refine Zac ?_ _ | refine Zab ?_ | refine Zaa ?_ _)); refine Zak ?_ aH.out _; (with_reducible repeat (first | refine Zac ?_ _ | refine Zab ?_ | refine Zaa ?_ _)); refine Zak ?_ aH.out _; (with_reducible repeat (first | refine Zac ?_ _ | refine Zab ?_ | refine Zaa ?_ _)); refine Zak ?_ aH.out _; exact bP j.out) hb); replace a := mA (Za1 (g := y) (o := .cells #[.int .i64 aa, .int .i64 ab, .int .i64 ad, .slice E x.length D] 26 (0, 0)) (by (with_reducible repeat (first | refine Zac ?_ _ | refine Zab ?_ | refine Zaa ?_ _)); refine Zak ?_ aI.out _; (with_reducible repeat (first | refine Zac ?_ _ | refine Zab ?_ | refine Zaa ?_ _)); refine Zak ?_ aI.out _; (with_reducible repeat (first | refine Zac ?_ _ | refine Zab ?_ | refine Zaa ?_ _)); refine Zak ?_ aI.out _; (with_reducible repeat (first | refine Zac ?_ _ | refine Zab ?_ | refine Zaa ?_ _)); refine Zak ?_ aI.out _; exact bP a.out) hb); replace s := mA (Za1 (g := U) (o := .cells #[.int .i64 aB, .int .i64 aF, .int .i64 aK, .slice I a2.length J] 26 (0, 0)) (by (with_reducible repeat (first | refine Zac ?_ _ | refine Zab ?_ | refine Zaa ?_ _)); refine Zak ?_ aJ.out _; (with_reducible repeat (first | refine Zac ?_ _ | refine Zab ?_ | refine Zaa ?_ _)); refine Zak ?_ aJ.out _; (with_reducible repeat (first | refine Zac ?_ _ | refine Zab ?_ | refine Zaa ?_ _)); refine Zak ?_ aJ.out _; (with_reducible repeat (first | refine Zac ?_ _ | refine Zab ?_ | refine Zaa ?_ _)); refine Zak ?_ aJ.out _; exact bP s.out) hb); replace b := mA (Za1 (g := q) (o := .cells #[.int .i64 L, .int .i64 O, .int .i64 P, .slice B v.length A] 26 (0, 0)) (by (with_reducible repeat (first | refine Zac ?_ _ | refine Zab ?_ | refine Zaa ?_ _)); refine Zak ?_ az.out _; (with_reducible repeat (first | refine Zac ?_ _ | refine Zab ?_ | refine Zaa ?_ _)); refine Zak ?_ az.out _; (with_reducible repeat (first | refine Zac ?_ _ | refine Zab ?_ | refine Zaa ?_ _)); refine Zak ?_ az.out _; (with_reducible repeat (first | refine Zac ?_ _ | refine Zab ?_ | refine Zaa ?_ _)); refine Zak ?_ az.out _; exact bP b.out) hb); replace G := mA (Za1 (g := u) (o := .cells #[.int .i64 aw, .int .i64 aA, .int .i64 aG, .slice ak am.length af] 26 (0, 0)) (by (with_reducible repeat (first | refine Zac ?_ _ | refine Zab ?_ | refine Zaa ?_ _)); refine Zao (cs := #[.int .i64 aw, .int .i64 aA, .int .i64 aG, .slice none 0 0]) ?_ 3 _ rfl; (with_reducible repeat (first | refine Zac ?_ _ | refine Zab ?_ | refine Zaa ?_ _)); refine Zao (cs := #[.int .i64 aw, .int .i64 aA, .int .i64 0, .slice none 0 0]) ?_ 2 _ rfl; (with_reducible repeat (first | refine Zac ?_ _ | refine Zab ?_ | refine Zaa ?_ _)); refine Zao (cs := #[.int .i64 aw, .int .i64 0, .int .i64 0, .slice none 0 0]) ?_ 1 _ rfl; (with_reducible repeat (first | refine Zac ?_ _ | refine Zab ?_ | refine Zaa ?_ _)); refine Zao (cs := #[.int .i64 0, .int .i64 0, .int .i64 0, .slice none 0 0]) ?_ 0 _ rfl; exact bP G.out) hb); replace HB := mA (Zaf (bW) hb); (try clear hb); (try clear hb2); (try clear hk); (try clear hi)))
       go_meet
       case rel => exact ⟨_, ((eV != bR)), (eW), H', ⟨by have := b1.out; have := eU.out; first | omega | exact Nat.le_refl _⟩, ⟨by (try simp only [z]); (with_reducible repeat (first | apply zI | apply zJ | apply zG)); exact zF l.out (fun _ hk => ⟨hk.1.1.1.1.1.1, ⟨hk.1.1.1.1.1.2.1, ⟨hk.1.2, ⟨hk.1.1.1.1.1.2.2.1, ⟨hk.1.1.1.1.1.2.2.2.1, ⟨hk.1.1.1.1.1.2.2.2.2.1, ⟨hk.1.1.1.1.1.2.2.2.2.2, ⟨hk.1.1.1.2, hk.2⟩⟩⟩⟩⟩⟩⟩⟩)⟩, ⟨by (try simp only [z]); (with_reducible repeat (first | apply zI | apply zJ | apply zG)); exact zF m.out (fun _ hk => ⟨hk.1.1.1.1.1.1, ⟨hk.1.1.1.1.1.2.1, ⟨hk.1.2, ⟨hk.1.1.1.1.1.2.2.1, ⟨hk.1.1.1.1.1.2.2.2.1, ⟨hk.1.1.1.1.1.2.2.2.2, ⟨hk.1.1.1.2, hk.2⟩⟩⟩⟩⟩⟩⟩)⟩, ⟨by (try simp only [z]); (with_reducible repeat (first | apply zI | apply zJ | apply zG)); exact zF d.out (fun _ hk => ⟨hk.1.1.1.1.1.1, ⟨hk.1.1.1.1.1.2.1, ⟨hk.1.2, ⟨hk.1.1.1.1.1.2.2.1, ⟨hk.1.1.1.1.1.2.2.2, ⟨hk.1.1.1.2, hk.2⟩⟩⟩⟩⟩⟩)⟩, ⟨by (try simp only [z]); (with_reducible repeat (first | apply zI | apply zJ | apply zG)); exact zF a4.out (fun _ hk => ⟨hk.1.1.1.1.2, ⟨hk.1.1.1.2, ⟨hk.1.1.2, hk.1.1.1.1.1.2⟩⟩⟩)⟩, ⟨by (try simp only [z]); exact bP j.out⟩, ⟨by (try simp only [z]); exact bP a.out⟩, ⟨by (try simp only [z]); exact bP s.out⟩, ⟨by (try simp only [z]); exact bP b.out⟩, ⟨by (try simp only [z]); exact bP G.out⟩, ⟨bW⟩⟩
      replace ca := Bool.eq_false_iff.mpr ca
      subst ca
      rw [iF] at H
      have H' := mA H
      clear H
      have il := bn.out
      have im := aH.out
      have io := bo.out
      have ip := aI.out
      have iq := bp.out
      have ir := aJ.out
      have it := bg.out
      have iu := az.out
      have f0 : a7.cell? ⟨u, 0, none⟩ = some (.int .i64 0) := bc G 0
      have f1 : a7.cell? ⟨u, 1, none⟩ = some (.int .i64 0) := bc G 1
      have f2 : a7.cell? ⟨u, 2, none⟩ = some (.int .i64 0) := bc G 2
      have f3 : a7.cell? ⟨u, 3, none⟩ = some (.slice none 0 0) := bc G 3
      have f4 := Zae G.out 0
      have f5 := Zae G.out 1
      have f6 := Zae G.out 2
      have f7 := Zae G.out 3
      have iv := aU.out
      have iw := ax.out
      have ix := ay.out
      have iy := aV.out
      have iz := Y.out
      have iA := aS.out
      have f8 : a7.cell? ⟨y, 0, none⟩ = some (.int .i64 aa) := bc a 0
      have f9 : a7.cell? ⟨y, 1, none⟩ = some (.int .i64 ab) := bc a 1
      have ga : a7.cell? ⟨y, 2, none⟩ = some (.int .i64 ad) := bc a 2
      have gb : a7.cell? ⟨y, 3, none⟩ = some (.slice E x.length D) := bc a 3
      have gc := Zae a.out 0
      have gf := Zae a.out 1
      have gg := Zae a.out 2
      have gh := Zae a.out 3
      go_wp2_with (first | ((with_reducible refine Zar (f := 13) rfl ?_); refine Za2 (some 102) Try.func13 #[.agg #[.int .i64 aw, .int .i64 aA, .int .i64 aG, .slice ak am.length af], .agg #[.int .i64 aa, .int .i64 ab, .int .i64 ad, .slice E x.length D]] ?_; (with_reducible refine (Zbj.calls bl aw aA aG _ _ am aa ab ad _ _ x false _ ?side1 ?side2 ?side3 ?side4 eX.out).mono ?_); (case side1 => refine (zW (e := 33) (base := w.heap.size) (ok := fun k_ => ((((((True ∧ bf ≤ k_) ∧ some k_ ≠ (.slice E x.length D : Value).ownBlock) ∧ some k_ ≠ (.slice I a2.length J : Value).ownBlock) ∧ some k_ ≠ (.slice B v.length A : Value).ownBlock) ∧ some k_ ≠ (.slice bM bz.length bN : Value).ownBlock) ∧ some k_ ≠ (.slice bO bA.length bQ : Value).ownBlock)) (n := am.length) (c := af) ?_).2.2; exact (by (with_reducible repeat (first | apply zI | apply zJ | apply zG)); exact (zF (zB (p := ⟨u, 3, none⟩) (zB (p := ⟨u, 2, none⟩) (zB (p := ⟨u, 1, none⟩) (zB (p := ⟨u, 0, none⟩) (zR a4.out G.out (by decide)) (fun _ hk => hk.2) (.int .i64 aw)) (fun _ hk => hk.2) (.int .i64 aA)) (fun _ hk => hk.2) (.int .i64 aG)) (fun _ hk => hk.2) (.slice ak am.length af)) (fun _ h_ => h_.1)))); (case side2 => exact (zW a4.out).2.1); (case side3 => refine (zW (e := 33) (base := w.heap.size) (ok := fun k_ => ((((((some k_ ≠ (.slice I a2.length J : Value).ownBlock ∧ (some k_ ≠ (.slice B v.length A : Value).ownBlock ∧ (a8 ≤ k_ ∧ (k_ < aD ∧ (k_ < X ∧ k_ < ae))))) ∧ some k_ ≠ (.slice bM bz.length bN : Value).ownBlock) ∧ k_ < bK) ∧ some k_ ≠ (.slice bO bA.length bQ : Value).ownBlock) ∧ some k_ ≠ (.slice ak am.length af : Value).ownBlock) ∧ k_ < bf)) (n := x.length) (c := D) ?_).2.2; exact (by (with_reducible repeat (first | apply zI | apply zJ | apply zG)); exact (zF (zB (p := ⟨u, 3, none⟩) (zB (p := ⟨u, 2, none⟩) (zB (p := ⟨u, 1, none⟩) (zB (p := ⟨u, 0, none⟩) (zR l.out G.out (by decide)) (fun _ hk => hk.2) (.int .i64 aw)) (fun _ hk => hk.2) (.int .i64 aA)) (fun _ hk => hk.2) (.int .i64 aG)) (fun _ hk => hk.2) (.slice ak am.length af)) (fun _ h_ => h_.1)))); (case side4 => exact (zW l.out).2.1); rintro e j6 ⟨rfl, hb⟩; refine ⟨_, rfl, ?_⟩; replace l := mA (zS (by (with_reducible repeat (first | apply zI | apply zJ | apply zG)); exact (zF (zB (p := ⟨u, 3, none⟩) (zB (p := ⟨u, 2, none⟩) (zB (p := ⟨u, 1, none⟩) (zB (p := ⟨u, 0, none⟩) (zR l.out G.out (by decide)) (fun _ hk => hk.2) (.int .i64 aw)) (fun _ hk => hk.2) (.int .i64 aA)) (fun _ hk => hk.2) (.int .i64 aG)) (fun _ hk => hk.2) (.slice ak am.length af)) (fun _ h_ => h_.1))) hb); replace m := mA (zS (by (with_reducible repeat (first | apply zI | apply zJ | apply zG)); exact (zF (zB (p := ⟨u, 3, none⟩) (zB (p := ⟨u, 2, none⟩) (zB (p := ⟨u, 1, none⟩) (zB (p := ⟨u, 0, none⟩) (zR m.out G.out (by decide)) (fun _ hk => hk.2) (.int .i64 aw)) (fun _ hk => hk.2) (.int .i64 aA)) (fun _ hk => hk.2) (.int .i64 aG)) (fun _ hk => hk.2) (.slice ak am.length af)) (fun _ h_ => h_.1))) hb); replace d := mA (zS (by (with_reducible repeat (first | apply zI | apply zJ | apply zG)); exact (zF (zB (p := ⟨u, 3, none⟩) (zB (p := ⟨u, 2, none⟩) (zB (p := ⟨u, 1, none⟩) (zB (p := ⟨u, 0, none⟩) (zR d.out G.out (by decide)) (fun _ hk => hk.2) (.int .i64 aw)) (fun _ hk => hk.2) (.int .i64 aA)) (fun _ hk => hk.2) (.int .i64 aG)) (fun _ hk => hk.2) (.slice ak am.length af)) (fun _ h_ => h_.1))) hb); replace aZ := mA (zS (by (with_reducible repeat (first | apply zI | apply zJ | apply zG)); exact (zF (zB (p := ⟨u, 3, none⟩) (zB (p := ⟨u, 2, none⟩) (zB (p := ⟨u, 1, none⟩) (zB (p := ⟨u, 0, none⟩) (zR aZ.out G.out (by decide)) (fun _ hk => hk.2) (.int .i64 aw)) (fun _ hk => hk.2) (.int .i64 aA)) (fun _ hk => hk.2) (.int .i64 aG)) (fun _ hk => hk.2) (.slice ak am.length af)) (fun _ h_ => h_.1))) hb); replace a9 := mA (zM (by (with_reducible repeat (first | apply zD | apply zE | apply zA)); exact (zC (zH (p := ⟨u, 3, none⟩) (zH (p := ⟨u, 2, none⟩) (zH (p := ⟨u, 1, none⟩) (zH (p := ⟨u, 0, none⟩) (zX a9.out G.out (by decide)) (fun _ hk => hk.2) (.int .i64 aw)) (fun _ hk => hk.2) (.int .i64 aA)) (fun _ hk => hk.2) (.int .i64 aG)) (fun _ hk => hk.2) (.slice ak am.length af)) (fun _ h_ => h_.1))) hb); replace a4 := mA (zS (by (with_reducible repeat (first | apply zI | apply zJ | apply zG)); exact (zF (zB (p := ⟨u, 3, none⟩) (zB (p := ⟨u, 2, none⟩) (zB (p := ⟨u, 1, none⟩) (zB (p := ⟨u, 0, none⟩) (zR a4.out G.out (by decide)) (fun _ hk => hk.2) (.int .i64 aw)) (fun _ hk => hk.2) (.int .i64 aA)) (fun _ hk => hk.2) (.int .i64 aG)) (fun _ hk => hk.2) (.slice ak am.length af)) (fun _ h_ => h_.1))) hb); replace j := mA (Za1 (g := aL) (o := .cells #[.int .i64 ar, .int .i64 au, .int .i64 av, .slice aM aj.length aN] 24 (0, 0)) (by (with_reducible repeat (first | refine Zac ?_ _ | refine Zab ?_ | refine Zaa ?_ _)); refine Zak ?_ aH.out _; (with_reducible repeat (first | refine Zac ?_ _ | refine Zab ?_ | refine Zaa ?_ _)); refine Zak ?_ aH.out _; (with_reducible repeat (first | refine Zac ?_ _ | refine Zab ?_ | refine Zaa ?_ _)); refine Zak ?_ aH.out _; (with_reducible repeat (first | refine Zac ?_ _ | refine Zab ?_ | refine Zaa ?_ _)); refine Zak ?_ aH.out _; exact bP j.out) hb); replace a := mA (Za1 (g := y) (o := .cells #[.int .i64 aa, .int .i64 ab, .int .i64 ad, .slice E x.length D] 26 (0, 0)) (by (with_reducible repeat (first | refine Zac ?_ _ | refine Zab ?_ | refine Zaa ?_ _)); refine Zak ?_ aI.out _; (with_reducible repeat (first | refine Zac ?_ _ | refine Zab ?_ | refine Zaa ?_ _)); refine Zak ?_ aI.out _; (with_reducible repeat (first | refine Zac ?_ _ | refine Zab ?_ | refine Zaa ?_ _)); refine Zak ?_ aI.out _; (with_reducible repeat (first | refine Zac ?_ _ | refine Zab ?_ | refine Zaa ?_ _)); refine Zak ?_ aI.out _; exact bP a.out) hb); replace s := mA (Za1 (g := U) (o := .cells #[.int .i64 aB, .int .i64 aF, .int .i64 aK, .slice I a2.length J] 26 (0, 0)) (by (with_reducible repeat (first | refine Zac ?_ _ | refine Zab ?_ | refine Zaa ?_ _)); refine Zak ?_ aJ.out _; (with_reducible repeat (first | refine Zac ?_ _ | refine Zab ?_ | refine Zaa ?_ _)); refine Zak ?_ aJ.out _; (with_reducible repeat (first | refine Zac ?_ _ | refine Zab ?_ | refine Zaa ?_ _)); refine Zak ?_ aJ.out _; (with_reducible repeat (first | refine Zac ?_ _ | refine Zab ?_ | refine Zaa ?_ _)); refine Zak ?_ aJ.out _; exact bP s.out) hb); replace b := mA (Za1 (g := q) (o := .cells #[.int .i64 L, .int .i64 O, .int .i64 P, .slice B v.length A] 26 (0, 0)) (by (with_reducible repeat (first | refine Zac ?_ _ | refine Zab ?_ | refine Zaa ?_ _)); refine Zak ?_ az.out _; (with_reducible repeat (first | refine Zac ?_ _ | refine Zab ?_ | refine Zaa ?_ _)); refine Zak ?_ az.out _; (with_reducible repeat (first | refine Zac ?_ _ | refine Zab ?_ | refine Zaa ?_ _)); refine Zak ?_ az.out _; (with_reducible repeat (first | refine Zac ?_ _ | refine Zab ?_ | refine Zaa ?_ _)); refine Zak ?_ az.out _; exact bP b.out) hb); replace G := mA (Za1 (g := u) (o := .cells #[.int .i64 aw, .int .i64 aA, .int .i64 aG, .slice ak am.length af] 26 (0, 0)) (by (with_reducible repeat (first | refine Zac ?_ _ | refine Zab ?_ | refine Zaa ?_ _)); refine Zao (cs := #[.int .i64 aw, .int .i64 aA, .int .i64 aG, .slice none 0 0]) ?_ 3 _ rfl; (with_reducible repeat (first | refine Zac ?_ _ | refine Zab ?_ | refine Zaa ?_ _)); refine Zao (cs := #[.int .i64 aw, .int .i64 aA, .int .i64 0, .slice none 0 0]) ?_ 2 _ rfl; (with_reducible repeat (first | refine Zac ?_ _ | refine Zab ?_ | refine Zaa ?_ _)); refine Zao (cs := #[.int .i64 aw, .int .i64 0, .int .i64 0, .slice none 0 0]) ?_ 1 _ rfl; (with_reducible repeat (first | refine Zac ?_ _ | refine Zab ?_ | refine Zaa ?_ _)); refine Zao (cs := #[.int .i64 0, .int .i64 0, .int .i64 0, .slice none 0 0]) ?_ 0 _ rfl; exact bP G.out) hb); replace HB := mA (Zaf (bW) hb); (try clear hb); (try clear hb2); (try clear hk); (try clear hi)))
      go_meet
      case rel => exact ⟨_, (true), (eW), H', ⟨by have := b1.out; have := eU.out; first | omega | exact Nat.le_refl _⟩, ⟨by (try simp only [z]); (with_reducible repeat (first | apply zI | apply zJ | apply zG)); exact zF l.out (fun _ hk => ⟨hk.1.1.1.1.1.1, ⟨hk.1.1.1.1.1.2.1, ⟨hk.1.2, ⟨hk.1.1.1.1.1.2.2.1, ⟨hk.1.1.1.1.1.2.2.2.1, ⟨hk.1.1.1.1.1.2.2.2.2.1, ⟨hk.1.1.1.1.1.2.2.2.2.2, ⟨hk.1.1.1.2, hk.2⟩⟩⟩⟩⟩⟩⟩⟩)⟩, ⟨by (try simp only [z]); (with_reducible repeat (first | apply zI | apply zJ | apply zG)); exact zF m.out (fun _ hk => ⟨hk.1.1.1.1.1.1, ⟨hk.1.1.1.1.1.2.1, ⟨hk.1.2, ⟨hk.1.1.1.1.1.2.2.1, ⟨hk.1.1.1.1.1.2.2.2.1, ⟨hk.1.1.1.1.1.2.2.2.2, ⟨hk.1.1.1.2, hk.2⟩⟩⟩⟩⟩⟩⟩)⟩, ⟨by (try simp only [z]); (with_reducible repeat (first | apply zI | apply zJ | apply zG)); exact zF d.out (fun _ hk => ⟨hk.1.1.1.1.1.1, ⟨hk.1.1.1.1.1.2.1, ⟨hk.1.2, ⟨hk.1.1.1.1.1.2.2.1, ⟨hk.1.1.1.1.1.2.2.2, ⟨hk.1.1.1.2, hk.2⟩⟩⟩⟩⟩⟩)⟩, ⟨by (try simp only [z]); (with_reducible repeat (first | apply zI | apply zJ | apply zG)); exact zF a4.out (fun _ hk => ⟨hk.1.1.1.1.2, ⟨hk.1.1.1.2, ⟨hk.1.1.2, hk.1.1.1.1.1.2⟩⟩⟩)⟩, ⟨by (try simp only [z]); exact bP j.out⟩, ⟨by (try simp only [z]); exact bP a.out⟩, ⟨by (try simp only [z]); exact bP s.out⟩, ⟨by (try simp only [z]); exact bP b.out⟩, ⟨by (try simp only [z]); exact bP G.out⟩, ⟨bW⟩⟩
     case rest =>
      clear b9 co cp cq cF cG cH cI cN cO cQ cR cW cX cY cZ dd de df dg cJ cK cL cM cS cT cU cV c0 da db dc dh di dj dk
      obtain ⟨kq, bj, rfl, HA, jG, l, m, d, bq, j, a, s, b, G, HB⟩ := hcut
      have ao := (zW d.out).1
      rw [ao] at d
      (try simp only [ao])
      (try simp only [ao] at j)
      (try simp only [ao] at a)
      (try simp only [ao] at s)
      (try simp only [ao] at b)
      (try simp only [ao] at G)
      (try simp only [ao] at l)
      (try simp only [ao] at m)
      (try simp only [ao] at bq)
      cases kq with
      | zero => exact absurd HA.out (by simp [Zat.j2])
      | succ e4 =>
       have H := HA.out
       clear HA
       simp only [Zat.j2] at H
       by_cases cb : bj = true
       ·subst cb
        rw [if_pos rfl] at H
        exact absurd (oI H) (by rw [HTr_.out]; decide)
       replace cb := Bool.eq_false_iff.mpr cb
       subst cb
       rw [iF] at H
       replace H := bE H
       obtain ⟨bB, dA, H⟩ := H
       have gi := mA dA
       clear dA
       by_cases bT : bB < 0
       ·rw [if_pos bT] at H
        have eY := dT bT
        clear bT
        exact absurd (oI H) (by rw [HTr_.out]; decide)
       rw [if_neg bT] at H
       have eY := dF bT
       clear bT
       by_cases bC : bB = ba; rotate_left
       ·rw [if_neg bC] at H
        have eZ : (bB == ba) = false := beq_eq_false_iff_ne.mpr bC
        have e0 : (bB != ba) = true := bne_iff_ne.mpr bC
        exact absurd (oI H) (by rw [HTr_.out]; decide)
       rw [if_pos bC] at H
       have eZ : (bB == ba) = true := beq_iff_eq.mpr bC
       have e0 : (bB != ba) = false := bne_eq_false_iff_eq.mpr bC
       clear bC
       obtain rfl := oI H
       have iB := a1.out
       have iC := ai.out
       have iD := aS.out
       have iE := Y.out
       have iG := aW.out
       have iH := ac.out
       have iI := az.out
       have iJ := bg.out
       have gj : wc.cell? ⟨q, 0, none⟩ = some (.int .i64 L) := bc b 0
       have gk : wc.cell? ⟨q, 1, none⟩ = some (.int .i64 O) := bc b 1
       have gl : wc.cell? ⟨q, 2, none⟩ = some (.int .i64 P) := bc b 2
       have gm : wc.cell? ⟨q, 3, none⟩ = some (.slice B bh.length A) := bc b 3
       have gn := Zae b.out 0
       have gp := Zae b.out 1
       have gq := Zae b.out 2
       have gr := Zae b.out 3
       go_wp2_with (first | ((with_reducible refine Zar (f := 15) rfl ?_); refine Za2 (some 111) Try.func15 #[.agg #[.int .i64 L, .int .i64 O, .int .i64 P, .slice B bh.length A], .int .i64 1] ?_; (with_reducible refine (Zb6.calls e4 L O P _ _ bh 1 bB _ ?side1 ?side2 gi.out).mono ?_); (case side1 => exact cP ((zW d.out).2.2)); (case side2 => exact (zW d.out).2.1); rintro e j7 ⟨rfl, hb⟩; refine ⟨_, rfl, ?_⟩; replace l := mA (zS (sP l.out) hb); replace m := mA (zS (sP m.out) hb); replace d := mA (zS (sP d.out) hb); replace bq := mA (zS (sP bq.out) hb); replace j := mA (blkB j.out hb); replace a := mA (blkB a.out hb); replace s := mA (blkB s.out hb); replace b := mA (blkB b.out hb); replace G := mA (blkB G.out hb); replace HB := mA (Zaf (bW) hb); (try clear hb); (try clear hb2); (try clear hk); (try clear hi)))
       go_ret
       exact ⟨eW, bW⟩
end Go.Proofs.Ytgindgodfcfgkaa.P
end M0
