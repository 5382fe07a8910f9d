import Derived.Test.YtjdkedmdeajmgaaDoorCFnExactNormalAutomaton3
import Derived.Test.YtjdkedmdeajmgaaDoorCFnExactNormalAutomaton10
import Derived.Test.YtjdkedmdeajmgaaDoorCFnExactNormalAutomaton16
set_option maxHeartbeats 8000000
set_option maxRecDepth 100000
section M0
namespace Go.Proofs.YtjdkedmdeajmgaaDoor.P
open Go.RowKit Go.Proofs.YtjdkedmdeajmgaaDoor.Sh Go.Proofs.YtjdkedmdeajmgaaDoorW.PrintWords Go.Proofs.YtjdkedmdeajmgaaDoorW.PrintLast Go.Proofs.YtjdkedmdeajmgaaDoorW.PrintMore
open Kd
attribute [local go_sem] Zcf Zch Zcv Zcu Zb6 Zb7 Zcg Zce   -- for this text's walks alone
set_option linter.unusedVariables false
set_option linter.unusedSimpArgs false
def Za3.l0 : Nat → List Bool → Int → Int → Int → Int → Int → List (List Int) → Option (Int × Int × Int × (List (List Int)) × Int)
 | 0, _, _, _, _, _, _, _ => none
 | k + 1, g, h, e, a, b, c, d => if e < h then (if 0 ≤ e then (if e < (g.length : Int) then (if rdOf false g e = true then ((Zc2.f e).bind fun i => (Za3.l0 k g h (wrap64 (e + 1)) a b (Go.bits .or .i64 c i) d)) else (Za3.l0 k g h (wrap64 (e + 1)) a b c d)) else (none)) else (none)) else (some (a, b, c, d, 0))
def Za3.f (k : Nat) (b : Int) (c : Int) (d : List Bool) (e : List (List Int)) : Option (Int × Int × Int × (List (List Int)) × Int) := (Zal.f k b c d e).bind fun a => (if (a.2.2.2.length : Int) > 16 then (some (0, 0, 0, ([] : List (List Int)), 3)) else (Za3.l0 k a.2.2.1 (a.2.2.1.length : Int) 0 b a.2.1 0 a.2.2.2))
theorem Za3.calls (k : Nat) (q : Int) (W : Int) (ad : Option Addr) (ae : Nat) (J : List Bool) (af : Option Addr) (ag : Nat) (L : List (List Int)) (r1 : Int) (r2 : Int) (r3 : Int) (r4 : List (List Int)) (r5 : Int) (w : World) (ay : Kd.C Kd.bool w ad J.length J) (az : J.length ≤ ae) (aA : Kd.C (Kd.slice 2 (Kd.int .i64)) w af L.length L) (aB : L.length ≤ ag) (h : Za3.f k q W J L = some (r1, r2, r3, r4, r5)) :
  Calls Tryd.prog 60 #[.agg #[.int .i64 q, .int .i64 W, .slice ad J.length ae, .slice af L.length ag]] w fun e w' => ∃ bB : Value, e = .returned (.tuple #[.agg #[.int .i64 r1, .int .i64 r2, .int .i64 r3, bB], .int .i64 r5]) ∧ Kd.S (Kd.slice 2 (Kd.int .i64)) 22 w' w.heap.size (fun _ => True) bB r4 ∧ Below w.heap.size w w' := by
 have dc := Tryd.underlying77
 have dd := Tryd.underlying39
 have aC := mA ay
 have aD := mA az
 clear ay az
 have aE := mA aA
 have aF := mA aB
 clear aA aB
 have HB := mA (Below.refl w.heap.size w)
 unfold Za3.f at h
 have H := h
 clear h
 obtain ⟨⟨I, r, x, s⟩, A2, H⟩ := bA H
 try dsimp only at H
 by_cases c3 : (s.length : Int) > 16
 ·rw [if_pos c3] at H
  have bo : decide (16 < (s.length : Int)) = true := dT c3
  have bp : decide (16 < s.length) = true := decide_eq_true (by omega)
  clear c3
  simp only [Option.some.injEq, Prod.mk.injEq] at H
  obtain ⟨rfl, rfl, rfl, rfl, rfl⟩ := H
  go_enter Tryd.func60, Tryd.ntmps60
  go_wp2_with (first | ((with_reducible refine Zat (N := 1) rfl ?_); refine boxS (N := 1) (cs := #[.int .i64 q, .int .i64 W, .slice ad J.length ae, .slice af L.length ag]) (t := 77) ?_; intro ah hg w4 hbox hb; have a := mA (hbox); have bq := geW (w := w) hg; have br := geW (w := w) hg; replace HB := mA (Zaf (bW) hb); clear hb hbox hg) | ((with_reducible refine Zat (N := 2) rfl ?_); refine boxS (N := 2) (cs := #[.int .i64 0, .int .i64 0, .int .i64 0, .slice none 0 0]) (t := 39) ?_; intro v hg w5 hbox hb; have b := mA (hbox); have bs := geW (w := w) hg; have bu := geW (w := w) hg; replace HB := mA (Zaf (bW) hb); have aa := mA (neB hg a); have ab := mA (neC hg a); replace a := mA (blkB a.out hb); clear hb hbox hg; have de := aa.out; have df := ab.out; obtain ⟨co, cp, cq, cr⟩ := Zbl a.out; obtain ⟨ct, cu, cv, cw⟩ := frz4 a.out) | ((with_reducible refine Zax (f := 83) rfl ?_); refine Zbi (some 9) Tryd.func83 #[.agg #[.int .i64 q, .int .i64 W, .slice ad J.length ae, .slice af L.length ag]] ?_; (with_reducible refine (Zal.calls k q W _ _ J _ _ L I r x s _ ?side1 ?side2 ?side3 ?side4 A2.out).mono ?_); (case side1 => exact cP (zQ aC.out HB.out)); (case side2 => exact aD.out); (case side3 => exact cP (zQ aE.out HB.out)); (case side4 => exact aF.out); rintro e w8 ⟨bC, bD, rfl, av, aw, hb⟩; refine ⟨_, rfl, ?_⟩; have O := mA (zS av (Zaj (bW))); have P := mA (yL aw (Zaj (bW))); replace a := mA (blkB a.out hb); replace b := mA (blkB b.out hb); replace HB := mA (Zaf (bW) hb); (try clear hb); (try clear hb2); (try clear hk); (try clear hi); (try clear av); (try clear aw)) | ((with_reducible refine Zat (N := 4) rfl ?_); refine boxS (N := 4) (cs := #[.int .i64 0, .int .i64 0, .slice none 0 0, .slice none 0 0]) (t := 77) ?_; intro B hg w9 hbox hb; replace O := mA (zK (rP O.out) hb); replace P := mA (zW (sP P.out) hb); have u := mA (hbox); have bv := geW (w := w) hg; have bw := geW (w := w) hg; replace HB := mA (Zaf (bW) hb); have m := mA (neB hg a); have aj := mA (neC hg a); replace a := mA (blkB a.out hb); have c := mA (neB hg b); have ac := mA (neC hg b); replace b := mA (blkB b.out hb); clear hb hbox hg; have cy := aj.out; have cz := m.out; have cA := ac.out; have cB := c.out; obtain ⟨bJ, bK, bL, bM⟩ := Zbl u.out; obtain ⟨bN, bO, bQ, bR⟩ := frz4 u.out; obtain ⟨dg, dh, bE⟩ := zP O.out; subst bE; obtain ⟨di, dj, bF⟩ := yE P.out; subst bF; obtain ⟨bS, bT, bU, bV⟩ := Zbl b.out; obtain ⟨bX, bY, bZ, b0⟩ := frz4 b.out))
  refine bodyPost_ret (Zdh rfl _ _ v 39 #[.int .i64 0, .int .i64 0, .int .i64 0, .slice none 0 0] (0, 0) _ rfl (by (with_reducible repeat (first | refine Zad ?_ _ | refine Zaa ?_ | refine Zab ?_ _)); refine Zau (cs := #[.int .i64 0, .int .i64 0, .int .i64 0, .slice none 0 0]) ?_ 3 _ rfl; (with_reducible repeat (first | refine Zad ?_ _ | refine Zaa ?_ | refine Zab ?_ _)); refine Zau (cs := #[.int .i64 0, .int .i64 0, .int .i64 0, .slice none 0 0]) ?_ 2 _ rfl; (with_reducible repeat (first | refine Zad ?_ _ | refine Zaa ?_ | refine Zab ?_ _)); refine Zau (cs := #[.int .i64 0, .int .i64 0, .int .i64 0, .slice none 0 0]) ?_ 1 _ rfl; (with_reducible repeat (first | refine Zad ?_ _ | refine Zaa ?_ | refine Zab ?_ _)); refine Zau (cs := #[.int .i64 0, .int .i64 0, .int .i64 0, .slice none 0 0]) ?_ 0 _ rfl; (with_reducible repeat (first | refine Zad ?_ _ | refine Zaa ?_ | refine Zab ?_ _)); refine Zao ?_ c.out _; (with_reducible repeat (first | refine Zad ?_ _ | refine Zaa ?_ | refine Zab ?_ _)); refine Zao ?_ c.out _; (with_reducible repeat (first | refine Zad ?_ _ | refine Zaa ?_ | refine Zab ?_ _)); refine Zao ?_ c.out _; (with_reducible repeat (first | refine Zad ?_ _ | refine Zaa ?_ | refine Zab ?_ _)); refine Zao ?_ c.out _; exact bP b.out) Tryd.underlying39 rfl (by kernel_rfl)) rfl ?_
  exact ⟨_, eW, by first | exact yU _ _ _ _ _ | exact yW _ _ _ _ _ | exact yX _ _ _ _ _ | exact yT _ _ _ _ _ | exact yR _ _ _ _ _, bW⟩
 rw [if_neg c3] at H
 have bo : decide (16 < (s.length : Int)) = false := dF c3
 have bp : decide (16 < s.length) = false := decide_eq_false (by omega)
 clear c3
 have H' := mA H
 clear H
 go_enter Tryd.func60, Tryd.ntmps60
 go_wp2_with (first | ((with_reducible refine Zat (N := 1) rfl ?_); refine boxS (N := 1) (cs := #[.int .i64 q, .int .i64 W, .slice ad J.length ae, .slice af L.length ag]) (t := 77) ?_; intro ah hg dl hbox hb; have a := mA (hbox); have bq := geW (w := w) hg; have br := geW (w := w) hg; replace HB := mA (Zaf (bW) hb); clear hb hbox hg) | ((with_reducible refine Zat (N := 2) rfl ?_); refine boxS (N := 2) (cs := #[.int .i64 0, .int .i64 0, .int .i64 0, .slice none 0 0]) (t := 39) ?_; intro v hg dm hbox hb; have b := mA (hbox); have bs := geW (w := w) hg; have bu := geW (w := w) hg; replace HB := mA (Zaf (bW) hb); have aa := mA (neB hg a); have ab := mA (neC hg a); replace a := mA (blkB a.out hb); clear hb hbox hg; have cC := aa.out; have cD := ab.out; obtain ⟨aI, aJ, aK, aL⟩ := Zbl a.out; obtain ⟨aM, aN, aO, aP⟩ := frz4 a.out) | ((with_reducible refine Zax (f := 83) rfl ?_); refine Zbi (some 9) Tryd.func83 #[.agg #[.int .i64 q, .int .i64 W, .slice ad J.length ae, .slice af L.length ag]] ?_; (with_reducible refine (Zal.calls k q W _ _ J _ _ L I r x s _ ?side1 ?side2 ?side3 ?side4 A2.out).mono ?_); (case side1 => exact cP (zQ aC.out HB.out)); (case side2 => exact aD.out); (case side3 => exact cP (zQ aE.out HB.out)); (case side4 => exact aF.out); rintro e dn ⟨bC, bD, rfl, av, aw, hb⟩; refine ⟨_, rfl, ?_⟩; have O := mA (zS av (Zaj (bW))); have P := mA (yL aw (Zaj (bW))); replace a := mA (blkB a.out hb); replace b := mA (blkB b.out hb); replace HB := mA (Zaf (bW) hb); (try clear hb); (try clear hb2); (try clear hk); (try clear hi); (try clear av); (try clear aw)) | ((with_reducible refine Zat (N := 4) rfl ?_); refine boxS (N := 4) (cs := #[.int .i64 0, .int .i64 0, .slice none 0 0, .slice none 0 0]) (t := 77) ?_; intro B hg dp hbox hb; replace O := mA (zK (rP O.out) hb); replace P := mA (zW (sP P.out) hb); have u := mA (hbox); have bv := geW (w := w) hg; have bw := geW (w := w) hg; replace HB := mA (Zaf (bW) hb); have m := mA (neB hg a); have aj := mA (neC hg a); replace a := mA (blkB a.out hb); have c := mA (neB hg b); have ac := mA (neC hg b); replace b := mA (blkB b.out hb); clear hb hbox hg; have cE := aj.out; have cF := m.out; have cG := ac.out; have cH := c.out; obtain ⟨aQ, aR, aS, aT⟩ := Zbl u.out; obtain ⟨aU, aV, aW, aX⟩ := frz4 u.out; obtain ⟨X, Y, bG⟩ := zP O.out; subst bG; obtain ⟨E, G, bH⟩ := yE P.out; subst bH; obtain ⟨aY, aZ, a0, a1⟩ := Zbl a.out; obtain ⟨a2, a3, a4, a5⟩ := frz4 a.out) | ((with_reducible refine Zat (N := 5) rfl ?_); refine boxS (N := 5) (cs := #[.int .i64 0, .int .i64 0, .int .i64 0, .slice none 0 0]) (t := 39) ?_; intro d hg dq hbox hb; replace O := mA (zK (by (with_reducible repeat (first | apply zC | apply zD | apply zA)); exact (zB (zF (p := ⟨B, 3, none⟩) (zF (p := ⟨B, 2, none⟩) (zF (p := ⟨B, 1, none⟩) (zF (p := ⟨B, 0, none⟩) (zV O.out u.out (by decide)) (fun _ hk => hk.2) (.int .i64 I)) (fun _ hk => hk.2) (.int .i64 r)) (fun _ hk => hk.2) (.slice X x.length Y)) (fun _ hk => hk.2) (.slice E s.length G)) (fun _ h_ => h_.1))) hb); replace P := mA (zW (by (with_reducible repeat (first | apply zL | apply zM | apply zH)); exact (zG (zE (p := ⟨B, 3, none⟩) (zE (p := ⟨B, 2, none⟩) (zE (p := ⟨B, 1, none⟩) (zE (p := ⟨B, 0, none⟩) (zX P.out u.out (by decide)) (fun _ hk => hk.2) (.int .i64 I)) (fun _ hk => hk.2) (.int .i64 r)) (fun _ hk => hk.2) (.slice X x.length Y)) (fun _ hk => hk.2) (.slice E s.length G)) (fun _ h_ => h_.1))) hb); have j := mA (hbox); have cI := geW (w := w) hg; have cJ := geW (w := w) hg; replace HB := mA (Zaf (bW) hb); have y := mA ((by rw [hg]; exact Nat.ne_of_lt (blk_lt (g := ah) (o := .cells #[.int .i64 q, .int .i64 W, .slice ad J.length ae, .slice af L.length ag] 77 (0, 0)) (by (with_reducible repeat (first | refine Zad ?_ _ | refine Zaa ?_ | refine Zab ?_ _)); refine Zao ?_ m.out _; (with_reducible repeat (first | refine Zad ?_ _ | refine Zaa ?_ | refine Zab ?_ _)); refine Zao ?_ m.out _; (with_reducible repeat (first | refine Zad ?_ _ | refine Zaa ?_ | refine Zab ?_ _)); refine Zao ?_ m.out _; (with_reducible repeat (first | refine Zad ?_ _ | refine Zaa ?_ | refine Zab ?_ _)); refine Zao ?_ m.out _; exact bP a.out)) : ah ≠ d)); have ak := mA ((by rw [hg]; exact Nat.ne_of_gt (blk_lt (g := ah) (o := .cells #[.int .i64 q, .int .i64 W, .slice ad J.length ae, .slice af L.length ag] 77 (0, 0)) (by (with_reducible repeat (first | refine Zad ?_ _ | refine Zaa ?_ | refine Zab ?_ _)); refine Zao ?_ m.out _; (with_reducible repeat (first | refine Zad ?_ _ | refine Zaa ?_ | refine Zab ?_ _)); refine Zao ?_ m.out _; (with_reducible repeat (first | refine Zad ?_ _ | refine Zaa ?_ | refine Zab ?_ _)); refine Zao ?_ m.out _; (with_reducible repeat (first | refine Zad ?_ _ | refine Zaa ?_ | refine Zab ?_ _)); refine Zao ?_ m.out _; exact bP a.out)) : d ≠ ah)); replace a := mA (Zbd (g := ah) (o := .cells #[.int .i64 q, .int .i64 W, .slice ad J.length ae, .slice af L.length ag] 77 (0, 0)) (by (with_reducible repeat (first | refine Zad ?_ _ | refine Zaa ?_ | refine Zab ?_ _)); refine Zao ?_ m.out _; (with_reducible repeat (first | refine Zad ?_ _ | refine Zaa ?_ | refine Zab ?_ _)); refine Zao ?_ m.out _; (with_reducible repeat (first | refine Zad ?_ _ | refine Zaa ?_ | refine Zab ?_ _)); refine Zao ?_ m.out _; (with_reducible repeat (first | refine Zad ?_ _ | refine Zaa ?_ | refine Zab ?_ _)); refine Zao ?_ m.out _; exact bP a.out) hb); have z := mA ((by rw [hg]; exact Nat.ne_of_lt (blk_lt (g := v) (o := .cells #[.int .i64 0, .int .i64 0, .int .i64 0, .slice none 0 0] 39 (0, 0)) (by (with_reducible repeat (first | refine Zad ?_ _ | refine Zaa ?_ | refine Zab ?_ _)); refine Zao ?_ c.out _; (with_reducible repeat (first | refine Zad ?_ _ | refine Zaa ?_ | refine Zab ?_ _)); refine Zao ?_ c.out _; (with_reducible repeat (first | refine Zad ?_ _ | refine Zaa ?_ | refine Zab ?_ _)); refine Zao ?_ c.out _; (with_reducible repeat (first | refine Zad ?_ _ | refine Zaa ?_ | refine Zab ?_ _)); refine Zao ?_ c.out _; exact bP b.out)) : v ≠ d)); have al := mA ((by rw [hg]; exact Nat.ne_of_gt (blk_lt (g := v) (o := .cells #[.int .i64 0, .int .i64 0, .int .i64 0, .slice none 0 0] 39 (0, 0)) (by (with_reducible repeat (first | refine Zad ?_ _ | refine Zaa ?_ | refine Zab ?_ _)); refine Zao ?_ c.out _; (with_reducible repeat (first | refine Zad ?_ _ | refine Zaa ?_ | refine Zab ?_ _)); refine Zao ?_ c.out _; (with_reducible repeat (first | refine Zad ?_ _ | refine Zaa ?_ | refine Zab ?_ _)); refine Zao ?_ c.out _; (with_reducible repeat (first | refine Zad ?_ _ | refine Zaa ?_ | refine Zab ?_ _)); refine Zao ?_ c.out _; exact bP b.out)) : d ≠ v)); replace b := mA (Zbd (g := v) (o := .cells #[.int .i64 0, .int .i64 0, .int .i64 0, .slice none 0 0] 39 (0, 0)) (by (with_reducible repeat (first | refine Zad ?_ _ | refine Zaa ?_ | refine Zab ?_ _)); refine Zao ?_ c.out _; (with_reducible repeat (first | refine Zad ?_ _ | refine Zaa ?_ | refine Zab ?_ _)); refine Zao ?_ c.out _; (with_reducible repeat (first | refine Zad ?_ _ | refine Zaa ?_ | refine Zab ?_ _)); refine Zao ?_ c.out _; (with_reducible repeat (first | refine Zad ?_ _ | refine Zaa ?_ | refine Zab ?_ _)); refine Zao ?_ c.out _; exact bP b.out) hb); have A := mA ((by rw [hg]; exact Nat.ne_of_lt (blk_lt (g := B) (o := .cells #[.int .i64 I, .int .i64 r, .slice X x.length Y, .slice E s.length G] 77 (0, 0)) (by (with_reducible repeat (first | refine Zad ?_ _ | refine Zaa ?_ | refine Zab ?_ _)); refine Zau (cs := #[.int .i64 I, .int .i64 r, .slice X x.length Y, .slice none 0 0]) ?_ 3 _ rfl; (with_reducible repeat (first | refine Zad ?_ _ | refine Zaa ?_ | refine Zab ?_ _)); refine Zau (cs := #[.int .i64 I, .int .i64 r, .slice none 0 0, .slice none 0 0]) ?_ 2 _ rfl; (with_reducible repeat (first | refine Zad ?_ _ | refine Zaa ?_ | refine Zab ?_ _)); refine Zau (cs := #[.int .i64 I, .int .i64 0, .slice none 0 0, .slice none 0 0]) ?_ 1 _ rfl; (with_reducible repeat (first | refine Zad ?_ _ | refine Zaa ?_ | refine Zab ?_ _)); refine Zau (cs := #[.int .i64 0, .int .i64 0, .slice none 0 0, .slice none 0 0]) ?_ 0 _ rfl; exact bP u.out)) : B ≠ d)); have am := mA ((by rw [hg]; exact Nat.ne_of_gt (blk_lt (g := B) (o := .cells #[.int .i64 I, .int .i64 r, .slice X x.length Y, .slice E s.length G] 77 (0, 0)) (by (with_reducible repeat (first | refine Zad ?_ _ | refine Zaa ?_ | refine Zab ?_ _)); refine Zau (cs := #[.int .i64 I, .int .i64 r, .slice X x.length Y, .slice none 0 0]) ?_ 3 _ rfl; (with_reducible repeat (first | refine Zad ?_ _ | refine Zaa ?_ | refine Zab ?_ _)); refine Zau (cs := #[.int .i64 I, .int .i64 r, .slice none 0 0, .slice none 0 0]) ?_ 2 _ rfl; (with_reducible repeat (first | refine Zad ?_ _ | refine Zaa ?_ | refine Zab ?_ _)); refine Zau (cs := #[.int .i64 I, .int .i64 0, .slice none 0 0, .slice none 0 0]) ?_ 1 _ rfl; (with_reducible repeat (first | refine Zad ?_ _ | refine Zaa ?_ | refine Zab ?_ _)); refine Zau (cs := #[.int .i64 0, .int .i64 0, .slice none 0 0, .slice none 0 0]) ?_ 0 _ rfl; exact bP u.out)) : d ≠ B)); replace u := mA (Zbd (g := B) (o := .cells #[.int .i64 I, .int .i64 r, .slice X x.length Y, .slice E s.length G] 77 (0, 0)) (by (with_reducible repeat (first | refine Zad ?_ _ | refine Zaa ?_ | refine Zab ?_ _)); refine Zau (cs := #[.int .i64 I, .int .i64 r, .slice X x.length Y, .slice none 0 0]) ?_ 3 _ rfl; (with_reducible repeat (first | refine Zad ?_ _ | refine Zaa ?_ | refine Zab ?_ _)); refine Zau (cs := #[.int .i64 I, .int .i64 r, .slice none 0 0, .slice none 0 0]) ?_ 2 _ rfl; (with_reducible repeat (first | refine Zad ?_ _ | refine Zaa ?_ | refine Zab ?_ _)); refine Zau (cs := #[.int .i64 I, .int .i64 0, .slice none 0 0, .slice none 0 0]) ?_ 1 _ rfl; (with_reducible repeat (first | refine Zad ?_ _ | refine Zaa ?_ | refine Zab ?_ _)); refine Zau (cs := #[.int .i64 0, .int .i64 0, .slice none 0 0, .slice none 0 0]) ?_ 0 _ rfl; exact bP u.out) hb); clear hb hbox hg; have cK := ak.out; have cL := y.out; have cM := al.out; have cN := z.out; have cO := am.out; have cQ := A.out; obtain ⟨a6, a7, a8, a9⟩ := Zbl j.out; obtain ⟨ba, bb, bd, bf⟩ := frz4 j.out; obtain ⟨bg, bh, bi, bj⟩ := Zbl u.out; obtain ⟨bk, bl, bm, bn⟩ := frz4 u.out))
 go_loopg [25] k (fun kq v25 w' => ∃ (D : Int) (l : Int), v25 = .int .i64 D ∧ Zac (Za3.l0 kq x (x.length : Int) D q r l s = some (r1, r2, r3, r4, r5)) ∧ Zac (kq ≤ k) ∧ Zac (Kd.R Kd.bool 4 w' w.heap.size (fun _ => True) (.slice X x.length Y) x) ∧ Zac (Kd.R Kd.bool 4 w' w.heap.size (fun _ => True) (.slice X x.length Y) x) ∧ Zac (Kd.S (Kd.slice 2 (Kd.int .i64)) 22 w' w.heap.size (fun _ => True) (.slice E s.length G) s) ∧ Zac (Kd.S (Kd.slice 2 (Kd.int .i64)) 22 w' w.heap.size (fun _ => True) (.slice E s.length G) s) ∧ Zac (w'.heap[ah]? = some (.cells #[.int .i64 q, .int .i64 W, (.slice ad J.length ae), (.slice af L.length ag)] 77 (0, 0))) ∧ Zac (w'.heap[v]? = some (.cells #[.int .i64 0, .int .i64 0, .int .i64 0, (.slice none 0 0)] 39 (0, 0))) ∧ Zac (w'.heap[B]? = some (.cells #[.int .i64 I, .int .i64 r, (.slice X x.length Y), (.slice E s.length G)] 77 (0, 0))) ∧ Zac (w'.heap[d]? = some (.cells #[.int .i64 q, .int .i64 r, .int .i64 l, (.slice E s.length G)] 39 (0, 0))) ∧ Zac (Below w.heap.size w w'))
 case atStart => exact ⟨(0), (0), (eW), H', ⟨Nat.le_refl _⟩, ⟨by (with_reducible repeat (first | apply zC | apply zD | apply zA)); exact zB (zF (p := ⟨d, 3, none⟩) (zF (p := ⟨d, 2, none⟩) (zF (p := ⟨d, 1, none⟩) (zF (p := ⟨d, 0, none⟩) (zV O.out j.out (by decide)) (fun _ hk => hk.2) (.int .i64 q)) (fun _ hk => hk.2) (.int .i64 r)) (fun _ hk => hk.2) (.int .i64 0)) (fun _ hk => hk.2) (.slice E s.length G)) (fun _ hk => trivial)⟩, ⟨by (with_reducible repeat (first | apply zC | apply zD | apply zA)); exact zB (zF (p := ⟨d, 3, none⟩) (zF (p := ⟨d, 2, none⟩) (zF (p := ⟨d, 1, none⟩) (zF (p := ⟨d, 0, none⟩) (zV O.out j.out (by decide)) (fun _ hk => hk.2) (.int .i64 q)) (fun _ hk => hk.2) (.int .i64 r)) (fun _ hk => hk.2) (.int .i64 0)) (fun _ hk => hk.2) (.slice E s.length G)) (fun _ hk => trivial)⟩, ⟨by (with_reducible repeat (first | apply zL | apply zM | apply zH)); exact zG (zE (p := ⟨d, 3, none⟩) (zE (p := ⟨d, 2, none⟩) (zE (p := ⟨d, 1, none⟩) (zE (p := ⟨d, 0, none⟩) (zX P.out j.out (by decide)) (fun _ hk => hk.2) (.int .i64 q)) (fun _ hk => hk.2) (.int .i64 r)) (fun _ hk => hk.2) (.int .i64 0)) (fun _ hk => hk.2) (.slice E s.length G)) (fun _ hk => trivial)⟩, ⟨by (with_reducible repeat (first | apply zL | apply zM | apply zH)); exact zG (zE (p := ⟨d, 3, none⟩) (zE (p := ⟨d, 2, none⟩) (zE (p := ⟨d, 1, none⟩) (zE (p := ⟨d, 0, none⟩) (zX P.out j.out (by decide)) (fun _ hk => hk.2) (.int .i64 q)) (fun _ hk => hk.2) (.int .i64 r)) (fun _ hk => hk.2) (.int .i64 0)) (fun _ hk => hk.2) (.slice E s.length G)) (fun _ hk => trivial)⟩, ⟨by (with_reducible repeat (first | refine Zad ?_ _ | refine Zaa ?_ | refine Zab ?_ _)); refine Zao ?_ y.out _; (with_reducible repeat (first | refine Zad ?_ _ | refine Zaa ?_ | refine Zab ?_ _)); refine Zao ?_ y.out _; (with_reducible repeat (first | refine Zad ?_ _ | refine Zaa ?_ | refine Zab ?_ _)); refine Zao ?_ y.out _; (with_reducible repeat (first | refine Zad ?_ _ | refine Zaa ?_ | refine Zab ?_ _)); refine Zao ?_ y.out _; exact bP a.out⟩, ⟨by (with_reducible repeat (first | refine Zad ?_ _ | refine Zaa ?_ | refine Zab ?_ _)); refine Zao ?_ z.out _; (with_reducible repeat (first | refine Zad ?_ _ | refine Zaa ?_ | refine Zab ?_ _)); refine Zao ?_ z.out _; (with_reducible repeat (first | refine Zad ?_ _ | refine Zaa ?_ | refine Zab ?_ _)); refine Zao ?_ z.out _; (with_reducible repeat (first | refine Zad ?_ _ | refine Zaa ?_ | refine Zab ?_ _)); refine Zao ?_ z.out _; exact bP b.out⟩, ⟨by (with_reducible repeat (first | refine Zad ?_ _ | refine Zaa ?_ | refine Zab ?_ _)); refine Zao ?_ A.out _; (with_reducible repeat (first | refine Zad ?_ _ | refine Zaa ?_ | refine Zab ?_ _)); refine Zao ?_ A.out _; (with_reducible repeat (first | refine Zad ?_ _ | refine Zaa ?_ | refine Zab ?_ _)); refine Zao ?_ A.out _; (with_reducible repeat (first | refine Zad ?_ _ | refine Zaa ?_ | refine Zab ?_ _)); refine Zao ?_ A.out _; exact bP u.out⟩, ⟨by (with_reducible repeat (first | refine Zad ?_ _ | refine Zaa ?_ | refine Zab ?_ _)); refine Zau (cs := #[.int .i64 q, .int .i64 r, .int .i64 0, .slice none 0 0]) ?_ 3 _ rfl; (with_reducible repeat (first | refine Zad ?_ _ | refine Zaa ?_ | refine Zab ?_ _)); refine Zau (cs := #[.int .i64 q, .int .i64 r, .int .i64 0, .slice none 0 0]) ?_ 2 _ rfl; (with_reducible repeat (first | refine Zad ?_ _ | refine Zaa ?_ | refine Zab ?_ _)); refine Zau (cs := #[.int .i64 q, .int .i64 0, .int .i64 0, .slice none 0 0]) ?_ 1 _ rfl; (with_reducible repeat (first | refine Zad ?_ _ | refine Zaa ?_ | refine Zab ?_ _)); refine Zau (cs := #[.int .i64 0, .int .i64 0, .int .i64 0, .slice none 0 0]) ?_ 0 _ rfl; exact bP j.out⟩, ⟨bW⟩⟩
 case round =>
  clear H' bo bp aI aJ aK aL aQ aR aS aT aY aZ a0 a1 a6 a7 a8 a9 bg bh bi bj aM aN aO aP aU aV aW aX a2 a3 a4 a5 ba bb bd bf bk bl bm bn
  obtain ⟨D, l, rfl, HA, aG, ai, T, U, M, a, b, u, j, HB⟩ := hrel
  cases gk with
  | zero => exact absurd HA.out (by simp [Za3.l0])
  | succ k1 =>
   have H := HA.out
   clear HA
   simp only [Za3.l0] at H
   by_cases ar : D < (x.length : Int); rotate_left
   ·rw [if_neg ar] at H
    have bx := dF ar
    clear ar
    simp only [Option.some.injEq, Prod.mk.injEq] at H
    obtain ⟨rfl, rfl, rfl, rfl, rfl⟩ := H
    have cR := ak.out
    have cS := y.out
    have cT := al.out
    have cU := z.out
    have cV := am.out
    have cW := A.out
    have b1 : wr.cell? ⟨d, 0, none⟩ = some (.int .i64 q) := bc j 0
    have b2 : wr.cell? ⟨d, 1, none⟩ = some (.int .i64 r) := bc j 1
    have b3 : wr.cell? ⟨d, 2, none⟩ = some (.int .i64 l) := bc j 2
    have b4 : wr.cell? ⟨d, 3, none⟩ = some (.slice E s.length G) := bc j 3
    have b5 := Zae j.out 0
    have b6 := Zae j.out 1
    have b7 := Zae j.out 2
    have b8 := Zae j.out 3
    have cX := ab.out
    have cY := aa.out
    have cZ := c.out
    have c0 := ac.out
    have b9 : wr.cell? ⟨v, 0, none⟩ = some (.int .i64 0) := bc b 0
    have ca : wr.cell? ⟨v, 1, none⟩ = some (.int .i64 0) := bc b 1
    have cb : wr.cell? ⟨v, 2, none⟩ = some (.int .i64 0) := bc b 2
    have cc : wr.cell? ⟨v, 3, none⟩ = some (.slice none 0 0) := bc b 3
    have cd := Zae b.out 0
    have ce := Zae b.out 1
    have cf := Zae b.out 2
    have cg := Zae b.out 3
    go_wp2
    refine bodyPost_ret (Zdh rfl _ _ v 39 #[.int .i64 q, .int .i64 r, .int .i64 l, .slice E s.length G] (0, 0) _ rfl (by (with_reducible repeat (first | refine Zad ?_ _ | refine Zaa ?_ | refine Zab ?_ _)); refine Zau (cs := #[.int .i64 q, .int .i64 r, .int .i64 l, .slice none 0 0]) ?_ 3 _ rfl; (with_reducible repeat (first | refine Zad ?_ _ | refine Zaa ?_ | refine Zab ?_ _)); refine Zau (cs := #[.int .i64 q, .int .i64 r, .int .i64 0, .slice none 0 0]) ?_ 2 _ rfl; (with_reducible repeat (first | refine Zad ?_ _ | refine Zaa ?_ | refine Zab ?_ _)); refine Zau (cs := #[.int .i64 q, .int .i64 0, .int .i64 0, .slice none 0 0]) ?_ 1 _ rfl; (with_reducible repeat (first | refine Zad ?_ _ | refine Zaa ?_ | refine Zab ?_ _)); refine Zau (cs := #[.int .i64 0, .int .i64 0, .int .i64 0, .slice none 0 0]) ?_ 0 _ rfl; exact bP b.out) Tryd.underlying39 rfl (by kernel_rfl)) rfl ?_
    exact ⟨_, eW, by (with_reducible repeat (first | apply zL | apply zM | apply zH)); exact zG (zE (p := ⟨v, 3, none⟩) (zE (p := ⟨v, 2, none⟩) (zE (p := ⟨v, 1, none⟩) (zE (p := ⟨v, 0, none⟩) (zX M.out b.out (by decide)) (fun _ hk => hk.2) (.int .i64 q)) (fun _ hk => hk.2) (.int .i64 r)) (fun _ hk => hk.2) (.int .i64 l)) (fun _ hk => hk.2) (.slice E s.length G)) (fun _ hk => trivial), bW⟩
   rw [if_pos ar] at H
   have bx := dT ar
   clear ar
   obtain ⟨c1, H⟩ := gE H
   obtain ⟨da, H⟩ := gE H
   obtain ⟨bI, au⟩ := nm (rdOf false x D)
   rw [← au.out] at H
   by_cases aH : bI = true; rotate_left
   ·replace aH := Bool.eq_false_iff.mpr aH
    subst aH
    rw [iF] at H
    have H' := mA H
    clear H
    have an : 0 ≤ (D : Int) := ofD
    have ao : D < (x.length : Int) := ofD
    obtain ⟨bz, ax, ap⟩ := yD (zJ ai.out).2.2 D an ao
    (try rw [← au.out] at ap)
    cases ax
    replace an := eq_true an
    replace ao := eq_true ao
    go_wp2
    go_roundg k1
    case measure => have := aG.out; omega
    case rel => exact ⟨(wrap64 (D + 1)), (l), (eW), H', ⟨by have := aG.out; omega⟩, ⟨rP ai.out⟩, ⟨rP T.out⟩, ⟨sP U.out⟩, ⟨sP M.out⟩, ⟨bP a.out⟩, ⟨bP b.out⟩, ⟨bP u.out⟩, ⟨bP j.out⟩, ⟨bW⟩⟩
   subst aH
   rw [if_pos rfl] at H
   obtain ⟨aq, cx, H⟩ := bA H
   have H' := mA H
   clear H
   have an : 0 ≤ (D : Int) := ofD
   have ao : D < (x.length : Int) := ofD
   obtain ⟨bz, ax, ap⟩ := yD (zJ ai.out).2.2 D an ao
   (try rw [← au.out] at ap)
   cases ax
   replace an := eq_true an
   replace ao := eq_true ao
   try go_wp2
   replace ai := mA (zA ai.out)
   replace T := mA (zA T.out)
   replace U := mA (zH U.out)
   replace M := mA (zH M.out)
   replace a := mA (Zaa a.out)
   replace b := mA (Zaa b.out)
   replace u := mA (Zaa u.out)
   replace j := mA (Zaa j.out)
   replace HB := mA (Za1 HB.out)
   refine Zck (n := 7) (S := fun w' => w'.cell? ⟨d, 0, none⟩ = some (.int .i64 q) ∧ w'.cell? ⟨d, 1, none⟩ = some (.int .i64 r) ∧ w'.cell? ⟨d, 2, none⟩ = some (.int .i64 l) ∧ w'.cell? ⟨d, 3, none⟩ = some (.slice E s.length G)) (ds := [6]) #[false, false, false, false, false, false, false] (by kernel_rfl) rfl rfl ⟨bc j 0, bc j 1, bc j 2, bc j 3⟩ (fun hHeld => ?_)
   generalize wr.drew = w40 at ai T U M a b u j HB hHeld ⊢
   refine Zas (i := 0) (N := some 31) (by kernel_rfl) ?_
   refine Zas (i := 2) (N := some 33) (by kernel_rfl) ?_
   refine Zbg (i := 1) (N := some 32) (by kernel_rfl) hHeld ?_
   refine one_ (i := 3) (N := some 34) #[true, true, true, true, false, false, false] rfl rfl (by kernel_rfl) (by decide) (fun K hK => ?_)
   refine goes_ Tryd.func103 (by kernel_rfl) rfl #[.int .i64 D] (by rfl) rfl rfl (by (try simp only [List.map_toArray, List.map_cons, List.map_nil]); first | done | rfl | (simp only [List.length_drop, List.length_take]; rfl)) ?_
   with_reducible refine (Zc2.calls D aq _ cx.out).mono ?_
   rintro e w' ⟨rfl, ⟨nd, rfl⟩⟩
   refine ⟨_, rfl, ?_⟩
   refine hK.out _ _ ⟨bc j 0, bc j 1, bc j 2, bc j 3⟩ (fun hHeld => ?_)
   clear hK K
   refine putS 34 ?_
   refine Zas (i := 4) (N := some 35) (by kernel_rfl) ?_
   refine Zas (i := 5) (N := some 36) (by kernel_rfl) ?_
   refine last_ (i := 6) (N := none) #[true, true, true, true, true, true, true] rfl rfl (by kernel_rfl) (by decide) (fun K hK => ?_)
   have dk : w40.cell? ⟨d, 2, none⟩ = some (.int .i64 l) := bc j 2
   have db := Zae j.out 2
   have ch := y.out
   have ci := z.out
   have cj := A.out
   have ck := ak.out
   have cm := al.out
   have cn := am.out
   refine skip_ (w1 := ?_) (by rfl) rfl ?_ ?_
   rotate_left
   ·go_simp
    rfl
   refine hK.out _ _ ?_
   clear hK K
   refine done_ (by kernel_rfl) ?_
   try go_wp2
   go_roundg k1
   case measure => have := aG.out; omega
   case rel => exact ⟨(wrap64 (D + 1)), (Go.bits .or .i64 l aq), (eW), H', ⟨by have := aG.out; omega⟩, ⟨by (with_reducible repeat (first | apply zC | apply zD | apply zA)); exact zB (zF (p := ⟨d, 2, none⟩) (zV ai.out j.out (by decide)) (fun _ hk => hk.2) (.int .i64 (Go.bits .or .i64 l aq))) (fun _ hk => trivial)⟩, ⟨by (with_reducible repeat (first | apply zC | apply zD | apply zA)); exact zB (zF (p := ⟨d, 2, none⟩) (zV T.out j.out (by decide)) (fun _ hk => hk.2) (.int .i64 (Go.bits .or .i64 l aq))) (fun _ hk => trivial)⟩, ⟨by (with_reducible repeat (first | apply zL | apply zM | apply zH)); exact zG (zE (p := ⟨d, 2, none⟩) (zX U.out j.out (by decide)) (fun _ hk => hk.2) (.int .i64 (Go.bits .or .i64 l aq))) (fun _ hk => trivial)⟩, ⟨by (with_reducible repeat (first | apply zL | apply zM | apply zH)); exact zG (zE (p := ⟨d, 2, none⟩) (zX M.out j.out (by decide)) (fun _ hk => hk.2) (.int .i64 (Go.bits .or .i64 l aq))) (fun _ hk => trivial)⟩, ⟨by (with_reducible repeat (first | refine Zad ?_ _ | refine Zaa ?_ | refine Zab ?_ _)); refine Zao ?_ y.out _; exact bP a.out⟩, ⟨by (with_reducible repeat (first | refine Zad ?_ _ | refine Zaa ?_ | refine Zab ?_ _)); refine Zao ?_ z.out _; exact bP b.out⟩, ⟨by (with_reducible repeat (first | refine Zad ?_ _ | refine Zaa ?_ | refine Zab ?_ _)); refine Zao ?_ A.out _; exact bP u.out⟩, ⟨by (with_reducible repeat (first | refine Zad ?_ _ | refine Zaa ?_ | refine Zab ?_ _)); refine Zau (cs := #[.int .i64 q, .int .i64 r, .int .i64 l, .slice E s.length G]) ?_ 2 _ rfl; exact bP j.out⟩, ⟨bW⟩⟩
def Zb2.f (k : Nat) (c : Int) (d : List Int) : Option (Int × Int × Int × (List (List Int)) × Int) := (Zay.f k c d).bind fun e => (if e = true then ((Zc9.f k c d).bind fun b => ((Za3.f k b.1 b.2.1 b.2.2.1 b.2.2.2).bind fun a => (some (a.1, a.2.1, a.2.2.1, a.2.2.2.1, a.2.2.2.2)))) else (some (0, 0, 0, ([] : List (List Int)), 1)))
theorem Zb2.calls (k : Nat) (d : Int) (m : Option Addr) (n : Nat) (c : List Int) (r1 : Int) (r2 : Int) (r3 : Int) (r4 : List (List Int)) (r5 : Int) (w : World) (E : Kd.C (Kd.int .i64) w m c.length c) (G : c.length ≤ n) (h : Zb2.f k d c = some (r1, r2, r3, r4, r5)) (hTab : Tab w) :
  Calls Tryd.prog 18 #[.agg #[.int .i64 d, .slice m c.length n]] w fun e w' => ∃ U : Value, e = .returned (.tuple #[.agg #[.int .i64 r1, .int .i64 r2, .int .i64 r3, U], .int .i64 r5]) ∧ Kd.S (Kd.slice 2 (Kd.int .i64)) 22 w' w.heap.size (fun _ => True) U r4 ∧ Below w.heap.size w w' := by
 have HTab := mA hTab
 clear hTab
 have aN := Tryd.underlying30
 have aO := Tryd.underlying39
 have u := mA E
 have v := mA G
 clear E G
 have HB := mA (Below.refl w.heap.size w)
 unfold Zb2.f at h
 have H := h
 clear h
 obtain ⟨X, A2, H⟩ := bA H
 by_cases c3 : X = true; rotate_left
 ·replace c3 := Bool.eq_false_iff.mpr c3
  subst c3
  rw [iF] at H
  simp only [Option.some.injEq, Prod.mk.injEq] at H
  obtain ⟨rfl, rfl, rfl, rfl, rfl⟩ := H
  go_enter Tryd.func18, Tryd.ntmps18
  go_wp2_with (first | ((with_reducible refine Zat (N := 1) rfl ?_); refine boxS (N := 1) (cs := #[.int .i64 d, .slice m c.length n]) (t := 30) ?_; intro L hg aU hbox hb; have a := mA (hbox); have M := geW (w := w) hg; have O := geW (w := w) hg; replace HB := mA (Zaf (bW) hb); clear hb hbox hg) | ((with_reducible refine Zat (N := 2) rfl ?_); refine boxS (N := 2) (cs := #[.int .i64 0, .int .i64 0, .int .i64 0, .slice none 0 0]) (t := 39) ?_; intro g hg aV hbox hb; have b := mA (hbox); have P := geW (w := w) hg; have T := geW (w := w) hg; replace HB := mA (Zaf (bW) hb); have i := mA (neB hg a); have j := mA (neC hg a); replace a := mA (blkB a.out hb); clear hb hbox hg; have aL := i.out; have aM := j.out; obtain ⟨ah, ai⟩ := Zcj a.out; obtain ⟨aj, ak⟩ := frz2 a.out) | ((with_reducible refine Zax (f := 59) rfl ?_); refine Zbi (some 5) Tryd.func59 #[.agg #[.int .i64 d, .slice m c.length n]] ?_; (with_reducible refine (Zay.calls k d _ _ c false _ ?side1 ?side2 A2.out (tabW HTab.out)).mono ?_); (case side1 => exact cP (zQ u.out HB.out)); (case side2 => exact v.out); rintro e aW ⟨rfl, hb⟩; refine ⟨_, rfl, ?_⟩; replace a := mA (blkB a.out hb); replace b := mA (blkB b.out hb); replace HB := mA (Zaf (bW) hb); (try clear hb); (try clear hb2); (try clear hk); (try clear hi); obtain ⟨al, am, an, ao⟩ := Zbl b.out; obtain ⟨ap, aq, ar, au⟩ := frz4 b.out))
  refine bodyPost_ret (Zdh rfl _ _ g 39 #[.int .i64 0, .int .i64 0, .int .i64 0, .slice none 0 0] (0, 0) _ rfl (by (with_reducible repeat (first | refine Zad ?_ _ | refine Zaa ?_ | refine Zab ?_ _)); refine Zau (cs := #[.int .i64 0, .int .i64 0, .int .i64 0, .slice none 0 0]) ?_ 3 _ rfl; (with_reducible repeat (first | refine Zad ?_ _ | refine Zaa ?_ | refine Zab ?_ _)); refine Zau (cs := #[.int .i64 0, .int .i64 0, .int .i64 0, .slice none 0 0]) ?_ 2 _ rfl; (with_reducible repeat (first | refine Zad ?_ _ | refine Zaa ?_ | refine Zab ?_ _)); refine Zau (cs := #[.int .i64 0, .int .i64 0, .int .i64 0, .slice none 0 0]) ?_ 1 _ rfl; (with_reducible repeat (first | refine Zad ?_ _ | refine Zaa ?_ | refine Zab ?_ _)); refine Zau (cs := #[.int .i64 0, .int .i64 0, .int .i64 0, .slice none 0 0]) ?_ 0 _ rfl; exact bP b.out) Tryd.underlying39 rfl (by kernel_rfl)) rfl ?_
  exact ⟨_, eW, by first | exact yU _ _ _ _ _ | exact yW _ _ _ _ _ | exact yX _ _ _ _ _ | exact yT _ _ _ _ _ | exact yR _ _ _ _ _, bW⟩
 subst c3
 rw [if_pos rfl] at H
 obtain ⟨⟨y, z, A, B⟩, A4, H⟩ := bA H
 try dsimp only at H
 obtain ⟨⟨q, r, x, D, Y⟩, A5, H⟩ := bA H
 try dsimp only at H
 simp only [Option.some.injEq, Prod.mk.injEq] at H
 obtain ⟨rfl, rfl, rfl, rfl, rfl⟩ := H
 go_enter Tryd.func18, Tryd.ntmps18
 go_wp2_with (first | ((with_reducible refine Zat (N := 1) rfl ?_); refine boxS (N := 1) (cs := #[.int .i64 d, .slice m c.length n]) (t := 30) ?_; intro L hg w6 hbox hb; have a := mA (hbox); have M := geW (w := w) hg; have O := geW (w := w) hg; replace HB := mA (Zaf (bW) hb); clear hb hbox hg) | ((with_reducible refine Zat (N := 2) rfl ?_); refine boxS (N := 2) (cs := #[.int .i64 0, .int .i64 0, .int .i64 0, .slice none 0 0]) (t := 39) ?_; intro g hg w7 hbox hb; have b := mA (hbox); have P := geW (w := w) hg; have T := geW (w := w) hg; replace HB := mA (Zaf (bW) hb); have i := mA (neB hg a); have j := mA (neC hg a); replace a := mA (blkB a.out hb); clear hb hbox hg; have aP := i.out; have aQ := j.out; obtain ⟨aH, aI⟩ := Zcj a.out; obtain ⟨aJ, aK⟩ := frz2 a.out) | ((with_reducible refine Zax (f := 59) rfl ?_); refine Zbi (some 5) Tryd.func59 #[.agg #[.int .i64 d, .slice m c.length n]] ?_; (with_reducible refine (Zay.calls k d _ _ c true _ ?side1 ?side2 A2.out (tabW HTab.out)).mono ?_); (case side1 => exact cP (zQ u.out HB.out)); (case side2 => exact v.out); rintro e aX ⟨rfl, hb⟩; refine ⟨_, rfl, ?_⟩; replace a := mA (blkB a.out hb); replace b := mA (blkB b.out hb); replace HB := mA (Zaf (bW) hb); (try clear hb); (try clear hb2); (try clear hk); (try clear hi); obtain ⟨av, aw⟩ := Zcj a.out; obtain ⟨ax, ay⟩ := frz2 a.out) | ((with_reducible refine Zax (f := 50) rfl ?_); refine Zbi (some 9) Tryd.func50 #[.agg #[.int .i64 d, .slice m c.length n]] ?_; (with_reducible refine (Zc9.calls k d _ _ c y z A B _ ?side1 ?side2 A4.out).mono ?_); (case side1 => exact cP (zQ u.out HB.out)); (case side2 => exact v.out); rintro e aY ⟨aR, aS, rfl, s, W, hb⟩; refine ⟨_, rfl, ?_⟩; have o := mA (zS s (Zaj (bW))); have l := mA (yL W (Zaj (bW))); replace a := mA (blkB a.out hb); replace b := mA (blkB b.out hb); replace HB := mA (Zaf (bW) hb); (try clear hb); (try clear hb2); (try clear hk); (try clear hi); (try clear s); (try clear W); obtain ⟨aa, ab, ac⟩ := zP o.out; subst ac; obtain ⟨ad, ae, af⟩ := yE l.out; subst af) | ((with_reducible refine Zax (f := 60) rfl ?_); refine Zbi (some 10) Tryd.func60 #[.agg #[.int .i64 y, .int .i64 z, .slice aa A.length ab, .slice ad B.length ae]] ?_; (with_reducible refine (Za3.calls k y z _ _ A _ _ B q r x D Y _ ?side1 ?side2 ?side3 ?side4 A5.out).mono ?_); (case side1 => exact cP ((zJ o.out).2.2)); (case side2 => exact (zJ o.out).2.1); (case side3 => exact cP ((yA l.out).2.2)); (case side4 => exact (yA l.out).2.1); rintro e aZ ⟨aT, rfl, s, hb⟩; refine ⟨_, rfl, ?_⟩; replace o := mA (zK (rP o.out) hb); have I := mA (yL (yM s (yS (sP l.out))) (Zaj (bW))); replace l := mA (yQ (sP l.out) (yV s) hb); replace a := mA (blkB a.out hb); replace b := mA (blkB b.out hb); replace HB := mA (Zaf (bW) hb); (try clear hb); (try clear hb2); (try clear hk); (try clear hi); (try clear s); obtain ⟨az, aA, aB, aC⟩ := Zbl b.out; obtain ⟨aD, aE, aF, aG⟩ := frz4 b.out; obtain ⟨J, K, ag⟩ := yE I.out; subst ag))
 refine bodyPost_ret (Zdh rfl _ _ g 39 #[.int .i64 q, .int .i64 r, .int .i64 x, .slice J D.length K] (0, 0) _ rfl (by (with_reducible repeat (first | refine Zad ?_ _ | refine Zaa ?_ | refine Zab ?_ _)); refine Zau (cs := #[.int .i64 q, .int .i64 r, .int .i64 x, .slice none 0 0]) ?_ 3 _ rfl; (with_reducible repeat (first | refine Zad ?_ _ | refine Zaa ?_ | refine Zab ?_ _)); refine Zau (cs := #[.int .i64 q, .int .i64 r, .int .i64 0, .slice none 0 0]) ?_ 2 _ rfl; (with_reducible repeat (first | refine Zad ?_ _ | refine Zaa ?_ | refine Zab ?_ _)); refine Zau (cs := #[.int .i64 q, .int .i64 0, .int .i64 0, .slice none 0 0]) ?_ 1 _ rfl; (with_reducible repeat (first | refine Zad ?_ _ | refine Zaa ?_ | refine Zab ?_ _)); refine Zau (cs := #[.int .i64 0, .int .i64 0, .int .i64 0, .slice none 0 0]) ?_ 0 _ rfl; exact bP b.out) Tryd.underlying39 rfl (by kernel_rfl)) rfl ?_
 exact ⟨_, eW, by (with_reducible repeat (first | apply zL | apply zM | apply zH)); exact zG (zE (p := ⟨g, 3, none⟩) (zE (p := ⟨g, 2, none⟩) (zE (p := ⟨g, 1, none⟩) (zE (p := ⟨g, 0, none⟩) (zX I.out b.out (by decide)) (fun _ hk => hk.2) (.int .i64 q)) (fun _ hk => hk.2) (.int .i64 r)) (fun _ hk => hk.2) (.int .i64 x)) (fun _ hk => hk.2) (.slice J D.length K)) (fun _ hk => trivial), bW⟩
def Zbs.l0 : Nat → List (List Int) → List (List Int) → Int → Option (Bool)
 | 0, _, _, _ => none
 | k + 1, x0, x1, x5 => if x5 < (x0.length : Int) then (if 0 ≤ x5 then (if x5 < (x1.length : Int) then ((Zbf.f k (Zam x0 x5) (Zam x1 x5)).bind fun a => (if a = true then (Zbs.l0 k x0 x1 (wrap64 (x5 + 1))) else (some false))) else (none)) else (none)) else (some true)
def Zbs.f (k : Nat) (l0 : List (List Int)) (l1 : List (List Int)) : Option (Bool) := if (l0.length : Int) = (l1.length : Int) then (Zbs.l0 k l0 l1 0) else (some false)
theorem Zbs.calls (k : Nat) (A0 : Option Addr) (c0 : Nat) (l0 : List (List Int)) (A1 : Option Addr) (c1 : Nat) (l1 : List (List Int)) (r : Bool) (w : World) (J : Kd.C (Kd.slice 2 (Kd.int .i64)) w A0 l0.length l0) (K : l0.length ≤ c0) (L : Kd.C (Kd.slice 2 (Kd.int .i64)) w A1 l1.length l1) (M : l1.length ≤ c1) (h : Zbs.f k l0 l1 = some r) :
  Calls Tryd.prog 27 #[.slice A0 l0.length c0, .slice A1 l1.length c1] w fun e w' => e = .returned (.bool r) ∧ Zaw w w' := by
 have O := mA J
 have Y := mA K
 clear J K
 have P := mA L
 have aa := mA M
 clear L M
 unfold Zbs.f at h
 have H := h
 clear h
 by_cases c3 : (l0.length : Int) = (l1.length : Int); rotate_left
 ·rw [if_neg c3] at H
  have x : ((l0.length : Int) == (l1.length : Int)) = false := beq_eq_false_iff_ne.mpr c3
  have y : ((l0.length : Int) != (l1.length : Int)) = true := bne_iff_ne.mpr c3
  have z : (l0.length == l1.length) = false := by first | simpa using c3 | (simp at c3 ⊢; omega)
  obtain rfl := oI H
  go_enter Tryd.func27, Tryd.ntmps27
  go_wp2
  repeat (go_quiet (fail); try go_wp2)
  go_ret
  exact ⟨eW, by repeat (first | exact Zaw.refl _ | apply Zaw.step)⟩
 rw [if_pos c3] at H
 have x : ((l0.length : Int) == (l1.length : Int)) = true := beq_iff_eq.mpr c3
 have y : ((l0.length : Int) != (l1.length : Int)) = false := bne_eq_false_iff_eq.mpr c3
 have z : (l0.length == l1.length) = true := by first | simpa using c3 | (simp at c3 ⊢; omega)
 clear c3
 have H' := mA H
 clear H
 go_enter Tryd.func27, Tryd.ntmps27
 go_wp2
 repeat (go_quiet (fail); try go_wp2)
 go_loopg [5] k (fun kq v5 w' => ∃ (a : Int), v5 = .int .i64 a ∧ Zac (Zbs.l0 kq l0 l1 a = some r) ∧ Zac (kq ≤ k) ∧ Zaw w w')
 case atStart => exact ⟨(0), (eW), H', ⟨Nat.le_refl _⟩, by repeat (first | exact Zaw.refl _ | apply Zaw.step)⟩
 case round =>
  clear H' x y z
  obtain ⟨a, rfl, HA, HK1, ⟨m1, rfl⟩⟩ := hrel
  cases gk with
  | zero => exact absurd HA.out (by simp [Zbs.l0])
  | succ k1 =>
   have H := HA.out
   clear HA
   simp only [Zbs.l0] at H
   by_cases c4 : a < (l0.length : Int); rotate_left
   ·rw [if_neg c4] at H
    have T := dF c4
    clear c4
    obtain rfl := oI H
    go_wp2
    repeat (go_quiet (fail); try go_wp2)
    go_ret
    exact ⟨eW, by repeat (first | exact Zaw.refl _ | apply Zaw.step)⟩
   rw [if_pos c4] at H
   have T := dT c4
   clear c4
   obtain ⟨W, H⟩ := gE H
   obtain ⟨X, H⟩ := gE H
   obtain ⟨U, A7, H⟩ := bA H
   by_cases c8 : U = true; rotate_left
   ·replace c8 := Bool.eq_false_iff.mpr c8
    subst c8
    rw [iF] at H
    obtain rfl := oI H
    have n : 0 ≤ (a : Int) := ofD
    have o : a < (l0.length : Int) := ofD
    obtain ⟨G, A, B, s, u, i, j⟩ := at_L3 O.out a n o
    cases s
    have b := mA j
    have c := mA i
    clear j i
    replace n := eq_true n
    replace o := eq_true o
    have p : 0 ≤ (a : Int) := ofD
    have q : a < (l1.length : Int) := ofD
    obtain ⟨I, D, E, t, v, l, m⟩ := at_L3 P.out a p q
    cases t
    have d := mA m
    have g := mA l
    clear m l
    replace p := eq_true p
    replace q := eq_true q
    go_wp2_with (first | (go_at_call 53; (with_reducible refine (Zbf.calls k1 _ _ (Zam l0 a) _ _ (Zam l1 a) false _ ?side1 ?side2 ?side3 ?side4 A7.out).mono ?_); (case side1 => exact cP b.out); (case side2 => exact c.out); (case side3 => exact cP d.out); (case side4 => exact g.out); rintro e w' ⟨rfl, ⟨nd, rfl⟩⟩; (try first | exact dwD | exact dwE)))
    repeat (go_quiet (first | (go_at_call 53; (with_reducible refine (Zbf.calls k1 _ _ (Zam l0 a) _ _ (Zam l1 a) false _ ?side1 ?side2 ?side3 ?side4 A7.out).mono ?_); (case side1 => exact cP b.out); (case side2 => exact c.out); (case side3 => exact cP d.out); (case side4 => exact g.out); rintro e w' ⟨rfl, ⟨nd, rfl⟩⟩; (try first | exact dwD | exact dwE))); try go_wp2_with (first | (go_at_call 53; (with_reducible refine (Zbf.calls k1 _ _ (Zam l0 a) _ _ (Zam l1 a) false _ ?side1 ?side2 ?side3 ?side4 A7.out).mono ?_); (case side1 => exact cP b.out); (case side2 => exact c.out); (case side3 => exact cP d.out); (case side4 => exact g.out); rintro e w' ⟨rfl, ⟨nd, rfl⟩⟩; (try first | exact dwD | exact dwE))))
    go_ret
    exact ⟨eW, by repeat (first | exact Zaw.refl _ | apply Zaw.step)⟩
   subst c8
   rw [if_pos rfl] at H
   have H' := mA H
   clear H
   have n : 0 ≤ (a : Int) := ofD
   have o : a < (l0.length : Int) := ofD
   obtain ⟨G, A, B, s, u, i, j⟩ := at_L3 O.out a n o
   cases s
   have b := mA j
   have c := mA i
   clear j i
   replace n := eq_true n
   replace o := eq_true o
   have p : 0 ≤ (a : Int) := ofD
   have q : a < (l1.length : Int) := ofD
   obtain ⟨I, D, E, t, v, l, m⟩ := at_L3 P.out a p q
   cases t
   have d := mA m
   have g := mA l
   clear m l
   replace p := eq_true p
   replace q := eq_true q
   go_wp2_with (first | (go_at_call 53; (with_reducible refine (Zbf.calls k1 _ _ (Zam l0 a) _ _ (Zam l1 a) true _ ?side1 ?side2 ?side3 ?side4 A7.out).mono ?_); (case side1 => exact cP b.out); (case side2 => exact c.out); (case side3 => exact cP d.out); (case side4 => exact g.out); rintro e w' ⟨rfl, ⟨nd, rfl⟩⟩; (try first | exact dwD | exact dwE)))
   repeat (go_quiet (first | (go_at_call 53; (with_reducible refine (Zbf.calls k1 _ _ (Zam l0 a) _ _ (Zam l1 a) true _ ?side1 ?side2 ?side3 ?side4 A7.out).mono ?_); (case side1 => exact cP b.out); (case side2 => exact c.out); (case side3 => exact cP d.out); (case side4 => exact g.out); rintro e w' ⟨rfl, ⟨nd, rfl⟩⟩; (try first | exact dwD | exact dwE))); try go_wp2_with (first | (go_at_call 53; (with_reducible refine (Zbf.calls k1 _ _ (Zam l0 a) _ _ (Zam l1 a) true _ ?side1 ?side2 ?side3 ?side4 A7.out).mono ?_); (case side1 => exact cP b.out); (case side2 => exact c.out); (case side3 => exact cP d.out); (case side4 => exact g.out); rintro e w' ⟨rfl, ⟨nd, rfl⟩⟩; (try first | exact dwD | exact dwE))))
   go_roundg k1
   case measure => have := HK1.out; omega
   case rel => exact ⟨(wrap64 (a + 1)), (eW), H', ⟨by have := HK1.out; omega⟩, by repeat (first | exact Zaw.refl _ | apply Zaw.step)⟩
def Zbv.f (k : Nat) (a : Int) (b : Int) (c : Int) (d : List (List Int)) (e : Int) (g : Int) (h : Int) (i : List (List Int)) : Option (Bool) := if a = e then (if b = g then (if c = h then ((Zbs.f k d i).bind fun j => (if j = true then (some true) else (some false))) else (some false)) else (some false)) else (some false)
theorem Zbv.calls (k : Nat) (j : Int) (l : Int) (m : Int) (q : Option Addr) (s : Nat) (g : List (List Int)) (n : Int) (o : Int) (p : Int) (u : Option Addr) (v : Nat) (i : List (List Int)) (r : Bool) (w : World) (E : Kd.C (Kd.slice 2 (Kd.int .i64)) w q g.length g) (G : g.length ≤ s) (I : Kd.C (Kd.slice 2 (Kd.int .i64)) w u i.length i) (J : i.length ≤ v) (h : Zbv.f k j l m g n o p i = some r) :
  Calls Tryd.prog 19 #[.agg #[.int .i64 j, .int .i64 l, .int .i64 m, .slice q g.length s], .agg #[.int .i64 n, .int .i64 o, .int .i64 p, .slice u i.length v]] w fun e w' => e = .returned (.bool r) ∧ Below w.heap.size w w' := by
 have bJ := Tryd.underlying39
 have K := mA E
 have L := mA G
 clear E G
 have M := mA I
 have O := mA J
 clear I J
 have HB := mA (Below.refl w.heap.size w)
 unfold Zbv.f at h
 have H := h
 clear h
 by_cases c3 : j = n; rotate_left
 ·rw [if_neg c3] at H
  have P : (j == n) = false := beq_eq_false_iff_ne.mpr c3
  have T : (j != n) = true := bne_iff_ne.mpr c3
  obtain rfl := oI H
  go_enter Tryd.func19, Tryd.ntmps19
  go_wp2_with (first | ((with_reducible refine Zat (N := 2) rfl ?_); refine boxS (N := 2) (cs := #[.int .i64 j, .int .i64 l, .int .i64 m, .slice q g.length s]) (t := 39) ?_; intro x hg bK hbox hb; have a := mA (hbox); have y := geW (w := w) hg; have z := geW (w := w) hg; replace HB := mA (Zaf (bW) hb); clear hb hbox hg) | ((with_reducible refine Zat (N := 3) rfl ?_); refine boxS (N := 3) (cs := #[.int .i64 n, .int .i64 o, .int .i64 p, .slice u i.length v]) (t := 39) ?_; intro A hg bL hbox hb; have d := mA (hbox); have B := geW (w := w) hg; have D := geW (w := w) hg; replace HB := mA (Zaf (bW) hb); have b := mA (neB hg a); have c := mA (neC hg a); replace a := mA (blkB a.out hb); clear hb hbox hg; have bx := b.out; have bz := c.out; obtain ⟨ab, ac, ad, ae⟩ := Zbl a.out; obtain ⟨af, ag, ah, ai⟩ := frz4 a.out; obtain ⟨aj, ak, al, am⟩ := Zbl d.out; obtain ⟨an, ao, ap, aq⟩ := frz4 d.out))
  go_ret
  exact ⟨eW, bW⟩
 rw [if_pos c3] at H
 have P : (j == n) = true := beq_iff_eq.mpr c3
 have T : (j != n) = false := bne_eq_false_iff_eq.mpr c3
 clear c3
 by_cases c4 : l = o; rotate_left
 ·rw [if_neg c4] at H
  have U : (l == o) = false := beq_eq_false_iff_ne.mpr c4
  have W : (l != o) = true := bne_iff_ne.mpr c4
  obtain rfl := oI H
  go_enter Tryd.func19, Tryd.ntmps19
  go_wp2_with (first | ((with_reducible refine Zat (N := 2) rfl ?_); refine boxS (N := 2) (cs := #[.int .i64 j, .int .i64 l, .int .i64 m, .slice q g.length s]) (t := 39) ?_; intro x hg bM hbox hb; have a := mA (hbox); have y := geW (w := w) hg; have z := geW (w := w) hg; replace HB := mA (Zaf (bW) hb); clear hb hbox hg) | ((with_reducible refine Zat (N := 3) rfl ?_); refine boxS (N := 3) (cs := #[.int .i64 n, .int .i64 o, .int .i64 p, .slice u i.length v]) (t := 39) ?_; intro A hg bN hbox hb; have d := mA (hbox); have B := geW (w := w) hg; have D := geW (w := w) hg; replace HB := mA (Zaf (bW) hb); have b := mA (neB hg a); have c := mA (neC hg a); replace a := mA (blkB a.out hb); clear hb hbox hg; have bB := b.out; have bC := c.out; obtain ⟨ar, au, av, aw⟩ := Zbl a.out; obtain ⟨ax, ay, az, aA⟩ := frz4 a.out; obtain ⟨aB, aC, aD, aE⟩ := Zbl d.out; obtain ⟨aF, aG, aH, aI⟩ := frz4 d.out))
  go_ret
  exact ⟨eW, bW⟩
 rw [if_pos c4] at H
 have U : (l == o) = true := beq_iff_eq.mpr c4
 have W : (l != o) = false := bne_eq_false_iff_eq.mpr c4
 clear c4
 by_cases c5 : m = p; rotate_left
 ·rw [if_neg c5] at H
  have X : (m == p) = false := beq_eq_false_iff_ne.mpr c5
  have Y : (m != p) = true := bne_iff_ne.mpr c5
  obtain rfl := oI H
  go_enter Tryd.func19, Tryd.ntmps19
  go_wp2_with (first | ((with_reducible refine Zat (N := 2) rfl ?_); refine boxS (N := 2) (cs := #[.int .i64 j, .int .i64 l, .int .i64 m, .slice q g.length s]) (t := 39) ?_; intro x hg bO hbox hb; have a := mA (hbox); have y := geW (w := w) hg; have z := geW (w := w) hg; replace HB := mA (Zaf (bW) hb); clear hb hbox hg) | ((with_reducible refine Zat (N := 3) rfl ?_); refine boxS (N := 3) (cs := #[.int .i64 n, .int .i64 o, .int .i64 p, .slice u i.length v]) (t := 39) ?_; intro A hg bQ hbox hb; have d := mA (hbox); have B := geW (w := w) hg; have D := geW (w := w) hg; replace HB := mA (Zaf (bW) hb); have b := mA (neB hg a); have c := mA (neC hg a); replace a := mA (blkB a.out hb); clear hb hbox hg; have bD := b.out; have bE := c.out; obtain ⟨aJ, aK, aL, aM⟩ := Zbl a.out; obtain ⟨aN, aO, aP, aQ⟩ := frz4 a.out; obtain ⟨aR, aS, aT, aU⟩ := Zbl d.out; obtain ⟨aV, aW, aX, aY⟩ := frz4 d.out))
  go_ret
  exact ⟨eW, bW⟩
 rw [if_pos c5] at H
 have X : (m == p) = true := beq_iff_eq.mpr c5
 have Y : (m != p) = false := bne_eq_false_iff_eq.mpr c5
 clear c5
 obtain ⟨aa, A6, H⟩ := bA H
 by_cases c7 : aa = true
 ·subst c7
  rw [if_pos rfl] at H
  obtain rfl := oI H
  go_enter Tryd.func19, Tryd.ntmps19
  go_wp2_with (first | ((with_reducible refine Zat (N := 2) rfl ?_); refine boxS (N := 2) (cs := #[.int .i64 j, .int .i64 l, .int .i64 m, .slice q g.length s]) (t := 39) ?_; intro x hg w8 hbox hb; have a := mA (hbox); have y := geW (w := w) hg; have z := geW (w := w) hg; replace HB := mA (Zaf (bW) hb); clear hb hbox hg) | ((with_reducible refine Zat (N := 3) rfl ?_); refine boxS (N := 3) (cs := #[.int .i64 n, .int .i64 o, .int .i64 p, .slice u i.length v]) (t := 39) ?_; intro A hg w9 hbox hb; have d := mA (hbox); have B := geW (w := w) hg; have D := geW (w := w) hg; replace HB := mA (Zaf (bW) hb); have b := mA (neB hg a); have c := mA (neC hg a); replace a := mA (blkB a.out hb); clear hb hbox hg; have bF := b.out; have bG := c.out; obtain ⟨aZ, a0, a1, a2⟩ := Zbl a.out; obtain ⟨a3, a4, a5, a6⟩ := frz4 a.out; obtain ⟨a7, a8, a9, ba⟩ := Zbl d.out; obtain ⟨bb, bc, bd, bf⟩ := frz4 d.out) | ((with_reducible refine Zax (f := 27) rfl ?_); refine Zbi (some 24) Tryd.func27 #[.slice q g.length s, .slice u i.length v] ?_; (with_reducible refine (Zbs.calls k _ _ g _ _ i true _ ?side1 ?side2 ?side3 ?side4 A6.out).mono ?_); (case side1 => exact cP (zQ K.out HB.out)); (case side2 => exact L.out); (case side3 => exact cP (zQ M.out HB.out)); (case side4 => exact O.out); rintro e w' ⟨rfl, ⟨nd, rfl⟩⟩; refine ⟨_, rfl, ?_⟩))
  go_ret
  exact ⟨eW, bW⟩
 replace c7 := Bool.eq_false_iff.mpr c7
 subst c7
 rw [iF] at H
 obtain rfl := oI H
 go_enter Tryd.func19, Tryd.ntmps19
 go_wp2_with (first | ((with_reducible refine Zat (N := 2) rfl ?_); refine boxS (N := 2) (cs := #[.int .i64 j, .int .i64 l, .int .i64 m, .slice q g.length s]) (t := 39) ?_; intro x hg bR hbox hb; have a := mA (hbox); have y := geW (w := w) hg; have z := geW (w := w) hg; replace HB := mA (Zaf (bW) hb); clear hb hbox hg) | ((with_reducible refine Zat (N := 3) rfl ?_); refine boxS (N := 3) (cs := #[.int .i64 n, .int .i64 o, .int .i64 p, .slice u i.length v]) (t := 39) ?_; intro A hg bS hbox hb; have d := mA (hbox); have B := geW (w := w) hg; have D := geW (w := w) hg; replace HB := mA (Zaf (bW) hb); have b := mA (neB hg a); have c := mA (neC hg a); replace a := mA (blkB a.out hb); clear hb hbox hg; have bH := b.out; have bI := c.out; obtain ⟨bg, bh, bi, bj⟩ := Zbl a.out; obtain ⟨bk, bl, bm, bn⟩ := frz4 a.out; obtain ⟨bo, bp, bq, br⟩ := Zbl d.out; obtain ⟨bs, bu, bv, bw⟩ := frz4 d.out) | ((with_reducible refine Zax (f := 27) rfl ?_); refine Zbi (some 24) Tryd.func27 #[.slice q g.length s, .slice u i.length v] ?_; (with_reducible refine (Zbs.calls k _ _ g _ _ i false _ ?side1 ?side2 ?side3 ?side4 A6.out).mono ?_); (case side1 => exact cP (zQ K.out HB.out)); (case side2 => exact L.out); (case side3 => exact cP (zQ M.out HB.out)); (case side4 => exact O.out); rintro e w' ⟨rfl, ⟨nd, rfl⟩⟩; refine ⟨_, rfl, ?_⟩))
 go_ret
 exact ⟨eW, bW⟩
def Zbk.l0 : Nat → List Int → Int → Int → Option (Int × List Int)
 | 0, _, _, _ => none
 | k + 1, x0, x1, x5 => if x5 < (x0.length : Int) then (if 0 ≤ x5 then (Zbk.l0 k (x0.set (x5 : Int).toNat x1) (wrap64 (x1 + 1)) (wrap64 (x5 + 1))) else (none)) else (some (x1, x0))
def Zbk.f (k : Nat) (l0 : List Int) (a1 : Int) : Option (Int × List Int) := Zbk.l0 k l0 a1 0
theorem Zbk.calls (k : Nat) (d : Nat → Prop) (c : Value) (l0 : List Int) (a1 : Int) (r1 : Int) (r2 : List Int) (w0 w : World) (hB : Below w0.heap.size w0 w) (v : Kd.R (Kd.int .i64) 2 w w0.heap.size d c l0) (h : Zbk.f k l0 a1 = some (r1, r2)) :
  Calls Tryd.prog 61 #[c, .int .i64 a1] w fun e w' => e = .returned (.int .i64 r1) ∧ Kd.R (Kd.int .i64) 2 w' w0.heap.size (fun k_ => (d k_ ∨ w.heap.size ≤ k_)) c r2 ∧ Below w0.heap.size w0 w' ∧ Kept w w' (fun k_ => d k_) := by
 have x := mA (show Kd.R (Kd.int .i64) 2 w w0.heap.size (fun k_ => (d k_ ∨ w.heap.size ≤ k_)) c l0 from zB v (fun k_ hk => (.inl hk)))
 have HK := mA (Kept.refl w (fun k_ => d k_))
 have K := mA hB.size
 have HB := mA hB
 clear hB
 unfold Zbk.f at h
 have H := h
 clear h
 have H' := mA H
 clear H
 go_enter Tryd.func61, Tryd.ntmps61
 go_wp2
 go_loopg [1, 5] k (fun kq v1 v5 w' => ∃ (g : List Int) (i : Int) (a : Int), v1 = .int .i64 i ∧ v5 = .int .i64 a ∧ Zac (Zbk.l0 kq g i a = some (r1, r2)) ∧ Zac (kq ≤ k) ∧ Zac (Kd.R (Kd.int .i64) 2 w' w0.heap.size (fun k_ => (d k_ ∨ w.heap.size ≤ k_)) c g) ∧ Zac (Kept w w' (fun k_ => d k_)) ∧ Zac (Below w0.heap.size w0 w'))
 case atStart => exact ⟨(l0), (a1), (0), (eW), (eW), H', ⟨Nat.le_refl _⟩, ⟨rP x.out⟩, ⟨kW⟩, ⟨bW⟩⟩
 case round =>
  clear H'
  obtain ⟨g, i, a, rfl, rfl, HA, o, b, HK, HB⟩ := hrel
  cases gk with
  | zero => exact absurd HA.out (by simp [Zbk.l0])
  | succ k1 =>
   have H := HA.out
   clear HA
   simp only [Zbk.l0] at H
   by_cases c3 : a < (g.length : Int); rotate_left
   ·rw [if_neg c3] at H
    have u := dF c3
    clear c3
    simp only [Option.some.injEq, Prod.mk.injEq] at H
    obtain ⟨rfl, rfl⟩ := H
    obtain ⟨L, M, y⟩ := zP b.out
    subst y
    go_wp2
    go_ret
    exact ⟨eW, (rP b.out), bW, kW⟩
   rw [if_pos c3] at H
   have u := dT c3
   clear c3
   obtain ⟨J, H⟩ := gE H
   obtain ⟨m, l⟩ := nm ((g.set (a : Int).toNat i) : List Int)
   rw [← l.out] at H
   have H' := mA H
   clear H
   obtain ⟨O, z, A⟩ := zP b.out
   subst A
   have p5 : 0 ≤ (a : Int) := ofD
   have q5 : (a : Int) < ((g.length : Int) : Int) := ofD
   obtain ⟨j, P, q, r, B, T, s⟩ := yK b.out (by omega)
   (first | cases q | (injection q with ea_ en_ ec_; (first | subst ea_ | (injection ea_ with ea_; subst ea_)); subst ec_; clear en_))
   have D := mA r
   have U := mA s
   clear r B s
   have E := mA (show (d j ∨ w.heap.size ≤ j) from (b.out.1 _ rfl))
   obtain ⟨G, I⟩ := yF 0 b.out (a : Int) p5 q5
   replace p5 := eq_true p5
   replace q5 := eq_true q5
   have n := yI b.out (a : Int) i
   go_wp2_with (first | ((with_reducible refine Zbq (t := 2) (p := 15) rfl ?_); refine Zdg (t := 2) (p := 15) (w1 := (wr.setCell ⟨j, (a : Int).toNat, none⟩ (.int .i64 i))) ?_; intro w8 hw; have hg : wr.grownBy w8 (some j) := (by rw [hw]; exact n.2); have hp_ : Kd.R (Kd.int .i64) 2 w8 w0.heap.size (fun k_ => (d k_ ∨ w.heap.size ≤ k_)) (.slice (some ⟨j, 0, none⟩) g.length z) m := (by rw [hw, l.out]; exact n.1); clear n; replace HB := mA ((by rw [hw]; exact Za9 (HB.out) D.out : Below w0.heap.size w0 w8)); replace HK := mA (Kept.of_grown (S := (fun k_ => d k_)) hg (kW) (fun k_ e_ => (b.out.1 k_ e_))); replace b := mA (hp_); clear hg hw hp_))
   go_roundg k1
   case measure => have := o.out; omega
   case rel => exact ⟨(m), (wrap64 (i + 1)), (wrap64 (a + 1)), (eW), (eW), H', ⟨by have := o.out; omega⟩, ⟨rP b.out⟩, ⟨kW⟩, ⟨bW⟩⟩
def Zc0.f (k : Nat) (c : Int) (b : List Int) (a1 : Int) : Option (Int × List Int) := (Zbk.f k b a1).bind fun a => (some (a.1, a.2))
theorem Zc0.calls (k : Nat) (i : Int) (b : Nat → Prop) (d : Value) (c : List Int) (a1 : Int) (r1 : Int) (r2 : List Int) (w0 w : World) (hB : Below w0.heap.size w0 w) (m : Kd.R (Kd.int .i64) 2 w w0.heap.size b d c) (h : Zc0.f k i c a1 = some (r1, r2)) :
  Calls Tryd.prog 20 #[.agg #[.int .i64 i, d], .int .i64 a1] w fun e w' => e = .returned (.int .i64 r1) ∧ Kd.R (Kd.int .i64) 2 w' w0.heap.size (fun k_ => (b k_ ∨ w.heap.size ≤ k_)) d r2 ∧ Below w0.heap.size w0 w' ∧ Kept w w' (fun k_ => b k_) := by
 have A := Tryd.underlying30
 have a := mA (show Kd.R (Kd.int .i64) 2 w w0.heap.size (fun k_ => (b k_ ∨ w.heap.size ≤ k_)) d c from zB m (fun k_ hk => (.inl hk)))
 have HK := mA (Kept.refl w (fun k_ => b k_))
 have B := mA hB.size
 have HB := mA hB
 clear hB
 unfold Zc0.f at h
 have H := h
 clear h
 obtain ⟨⟨q, r⟩, A3, H⟩ := bA H
 try dsimp only at H
 simp only [Option.some.injEq, Prod.mk.injEq] at H
 obtain ⟨rfl, rfl⟩ := H
 obtain ⟨j, l, s⟩ := zP a.out
 subst s
 go_enter Tryd.func20, Tryd.ntmps20
 go_wp2_with (first | ((with_reducible refine Zat (N := 2) rfl ?_); refine boxS (N := 2) (cs := #[.int .i64 i, .slice j c.length l]) (t := 30) ?_; intro n hg w5 hbox hb; replace a := mA (zK (rP a.out) hb); have g := mA (hbox); have z := mA ((by rw [hg]; exact (by first | exact HK.out.1 | exact (show Kept w _ (fun k_ => b k_) from kW).1) : w.heap.size ≤ n)); replace HK := mA (Kept.below (S := (fun k_ => b k_)) (kW) hb); have o := geW (w := w0) hg; replace HB := mA (Zaf (bW) hb); clear hb hbox hg; obtain ⟨u, v⟩ := Zcj g.out; obtain ⟨x, y⟩ := frz2 g.out) | ((with_reducible refine Zax (f := 61) rfl ?_); refine Zbi (some 8) Tryd.func61 #[.slice j c.length l, .int .i64 a1] ?_; (with_reducible refine (Zbk.calls k (fun k_ => some k_ = (.slice j c.length l : Value).ownBlock) (.slice j c.length l) c a1 q r w0 _ ?side1 ?side2 A3.out).mono ?_); (case side1 => repeat (first | (with_reducible first | exact HB.out | apply Zbm | apply Zbr | apply Za1 | refine Za9 ?_ o.out) | exact HB.out)); (case side2 => exact xC rfl a.out); rintro e w7 ⟨rfl, p, hb, hkp⟩; refine ⟨_, rfl, ?_⟩; replace g := mA (blk_kept (bP g.out) hkp (fun hs_ => (fun e_ => (zN a.out g.out (by decide)) e_) hs_)); replace HK := mA (Kept.then_ (S := (fun k_ => b k_)) (kW) hkp (fun k_ hs_ => (fun e_ => (a.out.1 k_ e_.symm)) hs_)); replace a := mA (Kd.R_reok rfl p (fun k_ e_ => a.out.1 k_ e_)); replace HB := mA (hb); (try clear hb); (try clear hkp); (try clear p)))
 go_ret
 exact ⟨eW, (rP a.out), bW, kW⟩
def Zbh.l0 : Nat → List (List Int) → Int → Int → Option (Int × List (List Int))
 | 0, _, _, _ => none
 | k + 1, x0, x1, x2 => if x2 < (x0.length : Int) then (if 0 ≤ x2 then ((Zbk.f k (rdOf ([] : List Int) x0 x2) x1).bind fun bt => Zbh.l0 k (x0.set (x2 : Int).toNat bt.2) bt.1 (wrap64 (x2 + 1))) else none) else some (x1, x0)
def Zbh.f (k : Nat) (l0 : List (List Int)) (a1 : Int) : Option (Int × List (List Int)) := Zbh.l0 k l0 a1 0
theorem Zbh.calls (k : Nat) (b : Nat → Prop) (a : Value) (l0 : List (List Int)) (a1 : Int) (r1 : Int) (r2 : List (List Int)) (w0 w : World) (hB : Below w0.heap.size w0 w) (d : Kd.S (Kd.slice 2 (Kd.int .i64)) 22 w w0.heap.size b a l0) (h : Zbh.f k l0 a1 = some (r1, r2)) :
    Calls Tryd.prog 28 #[a, .int .i64 a1] w fun e w' => e = .returned (.int .i64 r1) ∧ Kd.S (Kd.slice 2 (Kd.int .i64)) 22 w' w0.heap.size (fun k_ => b k_) a r2 ∧ Below w0.heap.size w0 w' ∧ Kept w w' (fun k_ => b k_) := by
  obtain ⟨A0, c0, hu⟩ := yE d
  subst hu
  have HO := mA d
  have HB := mA hB
  have HK := mA (Kept.refl w (fun k_ => b k_))
  clear d hB
  have H' := mA (show Zbh.l0 k l0 a1 0 = some (r1, r2) from h)
  clear h
  go_enter Tryd.func28, Tryd.ntmps28
  go_wp2
  go_loopg [1, 5] k (fun kq v1 v5 w' => ∃ (x0 : List (List Int)) (x1 : Int) (x2 : Int), v1 = .int .i64 x1 ∧ v5 = .int .i64 x2 ∧ Zac (Zbh.l0 kq x0 x1 x2 = some (r1, r2)) ∧ Zac (kq ≤ k) ∧ Zac (x0.length = l0.length) ∧ Zac (Kd.S (Kd.slice 2 (Kd.int .i64)) 22 w' w0.heap.size b (.slice A0 l0.length c0) x0) ∧ Zac (Below w0.heap.size w0 w') ∧ Zac (Kept w w' (fun k_ => b k_)))
  case atStart => exact ⟨l0, a1, 0, (eW), (eW), H', ⟨Nat.le_refl _⟩, ⟨rfl⟩, HO, HB, HK⟩
  case round =>
    clear H' HO HB HK
    obtain ⟨x0, x1, x2, rfl, rfl, HA, i, HL, HO, HB, HK⟩ := hrel
    cases gk with
    | zero => exact absurd HA.out (by simp [Zbh.l0])
    | succ k1 =>
      have H := HA.out
      clear HA
      simp only [Zbh.l0] at H
      rw [HL.out] at H
      by_cases c4 : x2 < (l0.length : Int); rotate_left
      · rw [if_neg c4] at H
        have j := dF c4
        simp only [Option.some.injEq, Prod.mk.injEq] at H
        obtain ⟨rfl, rfl⟩ := H
        go_wp2
        go_ret
        exact ⟨eW, HO.out, HB.out, HK.out⟩
      rw [if_pos c4] at H
      have j := dT c4
      by_cases c5 : 0 ≤ x2; rotate_left
      · rw [if_neg c5] at H
        exact absurd H (by simp)
      rw [if_pos c5] at H
      have p := dT c5
      obtain ⟨⟨t1, t2⟩, A60, H⟩ := bE H
      have A6 := mA A60
      have H' := mA (show Zbh.l0 k1 (x0.set x2.toNat t2) t1 (wrap64 (x2 + 1)) = some (r1, r2) from H)
      clear A60 H
      obtain ⟨g, hg⟩ : ∃ g, A0 = some ⟨g, 0, none⟩ := by
        obtain ⟨ad, _, hA, _⟩ := Zcp.get_ (yA HO.out).2.2 ([] : List Int) x2 c5 (by have := HL.out; omega)
        subst hA
        obtain ⟨g, e⟩ := Kd.R_head (Kd.S_R HO.out)
        exact ⟨g, by rw [e]⟩
      subst hg
      obtain ⟨oki, c, _, ⟨v, hc, hR⟩, hx, hlend, hH⟩ := Kd.S_lend HO.out ([] : List Int) x2 c5 (by omega)
      subst hc
      have l := hx 0 v rfl
      have HR := mA hR
      have HH := mA hH
      have HE := mA hlend
      have q := eq_true c5
      have r := eq_true c4
      clear hR hH hlend hx c4 c5 HO
      simp only [show (Kd.slice 2 (Kd.int .i64)).sz = 1 from rfl, Nat.mul_one, Nat.add_zero] at l
      go_wp2_with (first | ((with_reducible refine Zax (f := 61) rfl ?_); refine Zbi (some 17) Tryd.func61 #[v, .int .i64 x1] ?_; (with_reducible refine (Zbk.calls _ oki v _ x1 t1 t2 w0 _ HB.out HR.out A6.out).mono ?_); rintro e w' ⟨rfl, hy, hb, hkp⟩; refine ⟨_, rfl, ?_⟩; have m := mA (Kd.H_back (Kd.H_kept HH.out hkp (fun _ _ h_ => h_)) (x' := t2) (okp := oki) ⟨v, rfl, Kd.R_reok rfl hy (fun k_ e_ => HR.out.1 k_ e_)⟩ (fun _ h_ => h_)); have n := mA (Kept.then_ HK.out hkp (fun k_ h_ => .inl (HE.out k_ h_).1)); have o := mA hb; clear hy hb hkp HH HR HK HB))
      go_roundg k1
      case measure => have := i.out; omega
      case rel => exact ⟨_, _, _, (eW), (eW), H', ⟨by have := i.out; omega⟩, ⟨by rw [List.length_set]; exact HL.out⟩, m, o, n⟩
end Go.Proofs.YtjdkedmdeajmgaaDoor.P
end M0
