import Derived.Test.YtgindgodfcfgkaaCFnExactResidualOf7
set_option maxHeartbeats 8000000
set_option maxRecDepth 100000
section M0
namespace Go.Proofs.Ytgindgodfcfgkaa.P
open Go.RowKit Go.Proofs.Ytgindgodfcfgkaa.Sh Go.Proofs.YtgindgodfcfgkaaW.PrintWords Go.Proofs.YtgindgodfcfgkaaW.PrintLast Go.Proofs.YtgindgodfcfgkaaW.PrintMore
open Kd
attribute [local go_sem] Zcc Zcd Zck Zcl Zb2 Zb3 Zce Zcb   -- for this text's walks alone
set_option linter.unusedVariables false
set_option linter.unusedSimpArgs false
def Zaz.l0 : Nat → List Bool → Int → Int → Int → Int → Int → List (List Int) → Option (Int × Int × Int × (List (List Int)) × Int)
 | 0, _, _, _, _, _, _, _ => none
 | k + 1, g, h, e, a, b, c, d => if e < h then (if 0 ≤ e then (if e < (g.length : Int) then (if rdOf false g e = true then ((Zdf.f e).bind fun i => (Zaz.l0 k g h (wrap64 (e + 1)) a b (Go.bits .or .i64 c i) d)) else (Zaz.l0 k g h (wrap64 (e + 1)) a b c d)) else (none)) else (none)) else (some (a, b, c, d, 0))
def Zaz.f (k : Nat) (b : Int) (c : Int) (d : List Bool) (e : List (List Int)) : Option (Int × Int × Int × (List (List Int)) × Int) := (Zaj.f k b c d e).bind fun a => (if (a.2.2.2.length : Int) > 16 then (some (0, 0, 0, ([] : List (List Int)), 3)) else (Zaz.l0 k a.2.2.1 (a.2.2.1.length : Int) 0 b a.2.1 0 a.2.2.2))
theorem Zaz.calls (k : Nat) (q : Int) (W : Int) (ad : Option Addr) (ae : Nat) (J : List Bool) (af : Option Addr) (ag : Nat) (L : List (List Int)) (r1 : Int) (r2 : Int) (r3 : Int) (r4 : List (List Int)) (r5 : Int) (w : World) (ay : Kd.C Kd.bool w ad J.length J) (az : J.length ≤ ae) (aA : Kd.C (Kd.slice 2 (Kd.int .i64)) w af L.length L) (aB : L.length ≤ ag) (h : Zaz.f k q W J L = some (r1, r2, r3, r4, r5)) :
  Calls Try.prog 44 #[.agg #[.int .i64 q, .int .i64 W, .slice ad J.length ae, .slice af L.length ag]] w fun e w' => ∃ b5 : Value, e = .returned (.tuple #[.agg #[.int .i64 r1, .int .i64 r2, .int .i64 r3, b5], .int .i64 r5]) ∧ Kd.S (Kd.slice 2 (Kd.int .i64)) 33 w' w.heap.size (fun _ => True) b5 r4 ∧ Below w.heap.size w w' := by
 have dh := Try.underlying63
 have di := Try.underlying26
 have aC := mA ay
 have aD := mA az
 clear ay az
 have aE := mA aA
 have aF := mA aB
 clear aA aB
 have HB := mA (Below.refl w.heap.size w)
 unfold Zaz.f at h
 have H := h
 clear h
 replace H := bE H
 obtain ⟨⟨I, r, v, s⟩, A20, H⟩ := H
 try dsimp only at H
 have A2 := mA A20
 clear A20
 by_cases c3 : (s.length : Int) > 16
 ·rw [if_pos c3] at H
  have bK : decide (16 < (s.length : Int)) = true := dT c3
  have bL : decide (16 < s.length) = true := decide_eq_true (by omega)
  clear c3
  simp only [Option.some.injEq, Prod.mk.injEq] at H
  obtain ⟨rfl, rfl, rfl, rfl, rfl⟩ := H
  go_enter Try.func44, Try.ntmps44
  go_wp2_with (first | ((with_reducible refine Zap (N := 1) rfl ?_); refine boxS (N := 1) (cs := #[.int .i64 q, .int .i64 W, .slice ad J.length ae, .slice af L.length ag]) (t := 63) ?_; intro ah hg w4 hbox hb; have a := mA (hbox); have bX := geW (w := w) hg; have bY := geW (w := w) hg; replace HB := mA (Zaf (bW) hb); clear hb hbox hg) | ((with_reducible refine Zap (N := 2) rfl ?_); refine boxS (N := 2) (cs := #[.int .i64 0, .int .i64 0, .int .i64 0, .slice none 0 0]) (t := 26) ?_; intro x hg w5 hbox hb; have b := mA (hbox); have bZ := geW (w := w) hg; have b0 := geW (w := w) hg; replace HB := mA (Zaf (bW) hb); have aa := mA (neB hg a); have ab := mA (neC hg a); replace a := mA (blkB a.out hb); clear hb hbox hg; have dj := aa.out; have dk := ab.out; obtain ⟨bM, bN, bO, bQ⟩ := Zau a.out; obtain ⟨bR, bS, bT, bU⟩ := frz4 a.out) | ((with_reducible refine Zar (f := 58) rfl ?_); refine Za2 (some 9) Try.func58 #[.agg #[.int .i64 q, .int .i64 W, .slice ad J.length ae, .slice af L.length ag]] ?_; (with_reducible refine (Zaj.calls k q W _ _ J _ _ L I r v s _ ?side1 ?side2 ?side3 ?side4 A2.out).mono ?_); (case side1 => exact cP (zL aC.out HB.out)); (case side2 => exact aD.out); (case side3 => exact cP (zL aE.out HB.out)); (case side4 => exact aF.out); rintro e w8 ⟨b6, b7, rfl, av, aw, hb⟩; refine ⟨_, rfl, ?_⟩; have O := mA (zV av (Zan (bW))); have P := mA (yR aw (Zan (bW))); replace a := mA (blkB a.out hb); replace b := mA (blkB b.out hb); replace HB := mA (Zaf (bW) hb); (try clear hb); (try clear hb2); (try clear hk); (try clear hi); (try clear av); (try clear aw)) | ((with_reducible refine Zap (N := 4) rfl ?_); refine boxS (N := 4) (cs := #[.int .i64 0, .int .i64 0, .slice none 0 0, .slice none 0 0]) (t := 63) ?_; intro D hg w9 hbox hb; replace O := mA (zM (rP O.out) hb); replace P := mA (zS (sP P.out) hb); have u := mA (hbox); have b1 := geW (w := w) hg; have b2 := geW (w := w) hg; replace HB := mA (Zaf (bW) hb); have m := mA (neB hg a); have aj := mA (neC hg a); replace a := mA (blkB a.out hb); have c := mA (neB hg b); have ac := mA (neC hg b); replace b := mA (blkB b.out hb); clear hb hbox hg; have cC := aj.out; have cD := m.out; have cE := ac.out; have cF := c.out; obtain ⟨aL, aM, aN, aO⟩ := Zau u.out; obtain ⟨aP, aQ, aR, aS⟩ := frz4 u.out; obtain ⟨dl, dm, b8⟩ := zP O.out; subst b8; obtain ⟨dn, dp, b9⟩ := yD P.out; subst b9; obtain ⟨aT, aU, aV, aW⟩ := Zau b.out; obtain ⟨aX, aY, aZ, a0⟩ := frz4 b.out))
  refine bodyPost_ret (Zdc rfl _ _ x 26 #[.int .i64 0, .int .i64 0, .int .i64 0, .slice none 0 0] (0, 0) _ rfl (by (with_reducible repeat (first | refine Zac ?_ _ | refine Zab ?_ | refine Zaa ?_ _)); refine Zao (cs := #[.int .i64 0, .int .i64 0, .int .i64 0, .slice none 0 0]) ?_ 3 _ rfl; (with_reducible repeat (first | refine Zac ?_ _ | refine Zab ?_ | refine Zaa ?_ _)); refine Zao (cs := #[.int .i64 0, .int .i64 0, .int .i64 0, .slice none 0 0]) ?_ 2 _ rfl; (with_reducible repeat (first | refine Zac ?_ _ | refine Zab ?_ | refine Zaa ?_ _)); refine Zao (cs := #[.int .i64 0, .int .i64 0, .int .i64 0, .slice none 0 0]) ?_ 1 _ rfl; (with_reducible repeat (first | refine Zac ?_ _ | refine Zab ?_ | refine Zaa ?_ _)); refine Zao (cs := #[.int .i64 0, .int .i64 0, .int .i64 0, .slice none 0 0]) ?_ 0 _ rfl; (with_reducible repeat (first | refine Zac ?_ _ | refine Zab ?_ | refine Zaa ?_ _)); refine Zak ?_ c.out _; (with_reducible repeat (first | refine Zac ?_ _ | refine Zab ?_ | refine Zaa ?_ _)); refine Zak ?_ c.out _; (with_reducible repeat (first | refine Zac ?_ _ | refine Zab ?_ | refine Zaa ?_ _)); refine Zak ?_ c.out _; (with_reducible repeat (first | refine Zac ?_ _ | refine Zab ?_ | refine Zaa ?_ _)); refine Zak ?_ c.out _; exact bP b.out) Try.underlying26 rfl (by kernel_rfl)) rfl ?_
  exact ⟨_, eW, by first | exact xC _ _ _ _ _ | exact xE _ _ _ _ _ | exact xF _ _ _ _ _ | exact xB _ _ _ _ _ | exact yT _ _ _ _ _, bW⟩
 rw [if_neg c3] at H
 have bK : decide (16 < (s.length : Int)) = false := dF c3
 have bL : decide (16 < s.length) = false := decide_eq_false (by omega)
 clear c3
 have H' := mA H
 clear H
 go_enter Try.func44, Try.ntmps44
 go_wp2_with (first | ((with_reducible refine Zap (N := 1) rfl ?_); refine boxS (N := 1) (cs := #[.int .i64 q, .int .i64 W, .slice ad J.length ae, .slice af L.length ag]) (t := 63) ?_; intro ah hg dr hbox hb; have a := mA (hbox); have bX := geW (w := w) hg; have bY := geW (w := w) hg; replace HB := mA (Zaf (bW) hb); clear hb hbox hg) | ((with_reducible refine Zap (N := 2) rfl ?_); refine boxS (N := 2) (cs := #[.int .i64 0, .int .i64 0, .int .i64 0, .slice none 0 0]) (t := 26) ?_; intro x hg dt hbox hb; have b := mA (hbox); have bZ := geW (w := w) hg; have b0 := geW (w := w) hg; replace HB := mA (Zaf (bW) hb); have aa := mA (neB hg a); have ab := mA (neC hg a); replace a := mA (blkB a.out hb); clear hb hbox hg; have cG := aa.out; have cH := ab.out; obtain ⟨a1, a2, a3, a4⟩ := Zau a.out; obtain ⟨a5, a6, a7, a8⟩ := frz4 a.out) | ((with_reducible refine Zar (f := 58) rfl ?_); refine Za2 (some 9) Try.func58 #[.agg #[.int .i64 q, .int .i64 W, .slice ad J.length ae, .slice af L.length ag]] ?_; (with_reducible refine (Zaj.calls k q W _ _ J _ _ L I r v s _ ?side1 ?side2 ?side3 ?side4 A2.out).mono ?_); (case side1 => exact cP (zL aC.out HB.out)); (case side2 => exact aD.out); (case side3 => exact cP (zL aE.out HB.out)); (case side4 => exact aF.out); rintro e du ⟨b6, b7, rfl, av, aw, hb⟩; refine ⟨_, rfl, ?_⟩; have O := mA (zV av (Zan (bW))); have P := mA (yR aw (Zan (bW))); replace a := mA (blkB a.out hb); replace b := mA (blkB b.out hb); replace HB := mA (Zaf (bW) hb); (try clear hb); (try clear hb2); (try clear hk); (try clear hi); (try clear av); (try clear aw)) | ((with_reducible refine Zap (N := 4) rfl ?_); refine boxS (N := 4) (cs := #[.int .i64 0, .int .i64 0, .slice none 0 0, .slice none 0 0]) (t := 63) ?_; intro D hg dv hbox hb; replace O := mA (zM (rP O.out) hb); replace P := mA (zS (sP P.out) hb); have u := mA (hbox); have b1 := geW (w := w) hg; have b2 := geW (w := w) hg; replace HB := mA (Zaf (bW) hb); have m := mA (neB hg a); have aj := mA (neC hg a); replace a := mA (blkB a.out hb); have c := mA (neB hg b); have ac := mA (neC hg b); replace b := mA (blkB b.out hb); clear hb hbox hg; have cI := aj.out; have cJ := m.out; have cK := ac.out; have cL := c.out; obtain ⟨a9, ba, bb, bd⟩ := Zau u.out; obtain ⟨bf, bg, bh, bi⟩ := frz4 u.out; obtain ⟨X, Y, ca⟩ := zP O.out; subst ca; obtain ⟨E, G, cb⟩ := yD P.out; subst cb; obtain ⟨bj, bk, bl, bm⟩ := Zau a.out; obtain ⟨bn, bo, bp, bq⟩ := frz4 a.out) | ((with_reducible refine Zap (N := 5) rfl ?_); refine boxS (N := 5) (cs := #[.int .i64 0, .int .i64 0, .int .i64 0, .slice none 0 0]) (t := 26) ?_; intro d hg dw hbox hb; replace O := mA (zM (by (with_reducible repeat (first | apply zD | apply zE | apply zA)); exact (zC (zH (p := ⟨D, 3, none⟩) (zH (p := ⟨D, 2, none⟩) (zH (p := ⟨D, 1, none⟩) (zH (p := ⟨D, 0, none⟩) (zX O.out u.out (by decide)) (fun _ hk => hk.2) (.int .i64 I)) (fun _ hk => hk.2) (.int .i64 r)) (fun _ hk => hk.2) (.slice X v.length Y)) (fun _ hk => hk.2) (.slice E s.length G)) (fun _ h_ => h_.1))) hb); replace P := mA (zS (by (with_reducible repeat (first | apply zI | apply zJ | apply zG)); exact (zF (zB (p := ⟨D, 3, none⟩) (zB (p := ⟨D, 2, none⟩) (zB (p := ⟨D, 1, none⟩) (zB (p := ⟨D, 0, none⟩) (zR P.out u.out (by decide)) (fun _ hk => hk.2) (.int .i64 I)) (fun _ hk => hk.2) (.int .i64 r)) (fun _ hk => hk.2) (.slice X v.length Y)) (fun _ hk => hk.2) (.slice E s.length G)) (fun _ h_ => h_.1))) hb); have j := mA (hbox); have cM := geW (w := w) hg; have cN := geW (w := w) hg; replace HB := mA (Zaf (bW) hb); have z := mA ((by rw [hg]; exact Nat.ne_of_lt (blk_lt (g := ah) (o := .cells #[.int .i64 q, .int .i64 W, .slice ad J.length ae, .slice af L.length ag] 63 (0, 0)) (by (with_reducible repeat (first | refine Zac ?_ _ | refine Zab ?_ | refine Zaa ?_ _)); refine Zak ?_ m.out _; (with_reducible repeat (first | refine Zac ?_ _ | refine Zab ?_ | refine Zaa ?_ _)); refine Zak ?_ m.out _; (with_reducible repeat (first | refine Zac ?_ _ | refine Zab ?_ | refine Zaa ?_ _)); refine Zak ?_ m.out _; (with_reducible repeat (first | refine Zac ?_ _ | refine Zab ?_ | refine Zaa ?_ _)); refine Zak ?_ m.out _; exact bP a.out)) : ah ≠ d)); have ak := mA ((by rw [hg]; exact Nat.ne_of_gt (blk_lt (g := ah) (o := .cells #[.int .i64 q, .int .i64 W, .slice ad J.length ae, .slice af L.length ag] 63 (0, 0)) (by (with_reducible repeat (first | refine Zac ?_ _ | refine Zab ?_ | refine Zaa ?_ _)); refine Zak ?_ m.out _; (with_reducible repeat (first | refine Zac ?_ _ | refine Zab ?_ | refine Zaa ?_ _)); refine Zak ?_ m.out _; (with_reducible repeat (first | refine Zac ?_ _ | refine Zab ?_ | refine Zaa ?_ _)); refine Zak ?_ m.out _; (with_reducible repeat (first | refine Zac ?_ _ | refine Zab ?_ | refine Zaa ?_ _)); refine Zak ?_ m.out _; exact bP a.out)) : d ≠ ah)); replace a := mA (Za1 (g := ah) (o := .cells #[.int .i64 q, .int .i64 W, .slice ad J.length ae, .slice af L.length ag] 63 (0, 0)) (by (with_reducible repeat (first | refine Zac ?_ _ | refine Zab ?_ | refine Zaa ?_ _)); refine Zak ?_ m.out _; (with_reducible repeat (first | refine Zac ?_ _ | refine Zab ?_ | refine Zaa ?_ _)); refine Zak ?_ m.out _; (with_reducible repeat (first | refine Zac ?_ _ | refine Zab ?_ | refine Zaa ?_ _)); refine Zak ?_ m.out _; (with_reducible repeat (first | refine Zac ?_ _ | refine Zab ?_ | refine Zaa ?_ _)); refine Zak ?_ m.out _; exact bP a.out) hb); have A := mA ((by rw [hg]; exact Nat.ne_of_lt (blk_lt (g := x) (o := .cells #[.int .i64 0, .int .i64 0, .int .i64 0, .slice none 0 0] 26 (0, 0)) (by (with_reducible repeat (first | refine Zac ?_ _ | refine Zab ?_ | refine Zaa ?_ _)); refine Zak ?_ c.out _; (with_reducible repeat (first | refine Zac ?_ _ | refine Zab ?_ | refine Zaa ?_ _)); refine Zak ?_ c.out _; (with_reducible repeat (first | refine Zac ?_ _ | refine Zab ?_ | refine Zaa ?_ _)); refine Zak ?_ c.out _; (with_reducible repeat (first | refine Zac ?_ _ | refine Zab ?_ | refine Zaa ?_ _)); refine Zak ?_ c.out _; exact bP b.out)) : x ≠ d)); have al := mA ((by rw [hg]; exact Nat.ne_of_gt (blk_lt (g := x) (o := .cells #[.int .i64 0, .int .i64 0, .int .i64 0, .slice none 0 0] 26 (0, 0)) (by (with_reducible repeat (first | refine Zac ?_ _ | refine Zab ?_ | refine Zaa ?_ _)); refine Zak ?_ c.out _; (with_reducible repeat (first | refine Zac ?_ _ | refine Zab ?_ | refine Zaa ?_ _)); refine Zak ?_ c.out _; (with_reducible repeat (first | refine Zac ?_ _ | refine Zab ?_ | refine Zaa ?_ _)); refine Zak ?_ c.out _; (with_reducible repeat (first | refine Zac ?_ _ | refine Zab ?_ | refine Zaa ?_ _)); refine Zak ?_ c.out _; exact bP b.out)) : d ≠ x)); replace b := mA (Za1 (g := x) (o := .cells #[.int .i64 0, .int .i64 0, .int .i64 0, .slice none 0 0] 26 (0, 0)) (by (with_reducible repeat (first | refine Zac ?_ _ | refine Zab ?_ | refine Zaa ?_ _)); refine Zak ?_ c.out _; (with_reducible repeat (first | refine Zac ?_ _ | refine Zab ?_ | refine Zaa ?_ _)); refine Zak ?_ c.out _; (with_reducible repeat (first | refine Zac ?_ _ | refine Zab ?_ | refine Zaa ?_ _)); refine Zak ?_ c.out _; (with_reducible repeat (first | refine Zac ?_ _ | refine Zab ?_ | refine Zaa ?_ _)); refine Zak ?_ c.out _; exact bP b.out) hb); have B := mA ((by rw [hg]; exact Nat.ne_of_lt (blk_lt (g := D) (o := .cells #[.int .i64 I, .int .i64 r, .slice X v.length Y, .slice E s.length G] 63 (0, 0)) (by (with_reducible repeat (first | refine Zac ?_ _ | refine Zab ?_ | refine Zaa ?_ _)); refine Zao (cs := #[.int .i64 I, .int .i64 r, .slice X v.length Y, .slice none 0 0]) ?_ 3 _ rfl; (with_reducible repeat (first | refine Zac ?_ _ | refine Zab ?_ | refine Zaa ?_ _)); refine Zao (cs := #[.int .i64 I, .int .i64 r, .slice none 0 0, .slice none 0 0]) ?_ 2 _ rfl; (with_reducible repeat (first | refine Zac ?_ _ | refine Zab ?_ | refine Zaa ?_ _)); refine Zao (cs := #[.int .i64 I, .int .i64 0, .slice none 0 0, .slice none 0 0]) ?_ 1 _ rfl; (with_reducible repeat (first | refine Zac ?_ _ | refine Zab ?_ | refine Zaa ?_ _)); refine Zao (cs := #[.int .i64 0, .int .i64 0, .slice none 0 0, .slice none 0 0]) ?_ 0 _ rfl; exact bP u.out)) : D ≠ d)); have am := mA ((by rw [hg]; exact Nat.ne_of_gt (blk_lt (g := D) (o := .cells #[.int .i64 I, .int .i64 r, .slice X v.length Y, .slice E s.length G] 63 (0, 0)) (by (with_reducible repeat (first | refine Zac ?_ _ | refine Zab ?_ | refine Zaa ?_ _)); refine Zao (cs := #[.int .i64 I, .int .i64 r, .slice X v.length Y, .slice none 0 0]) ?_ 3 _ rfl; (with_reducible repeat (first | refine Zac ?_ _ | refine Zab ?_ | refine Zaa ?_ _)); refine Zao (cs := #[.int .i64 I, .int .i64 r, .slice none 0 0, .slice none 0 0]) ?_ 2 _ rfl; (with_reducible repeat (first | refine Zac ?_ _ | refine Zab ?_ | refine Zaa ?_ _)); refine Zao (cs := #[.int .i64 I, .int .i64 0, .slice none 0 0, .slice none 0 0]) ?_ 1 _ rfl; (with_reducible repeat (first | refine Zac ?_ _ | refine Zab ?_ | refine Zaa ?_ _)); refine Zao (cs := #[.int .i64 0, .int .i64 0, .slice none 0 0, .slice none 0 0]) ?_ 0 _ rfl; exact bP u.out)) : d ≠ D)); replace u := mA (Za1 (g := D) (o := .cells #[.int .i64 I, .int .i64 r, .slice X v.length Y, .slice E s.length G] 63 (0, 0)) (by (with_reducible repeat (first | refine Zac ?_ _ | refine Zab ?_ | refine Zaa ?_ _)); refine Zao (cs := #[.int .i64 I, .int .i64 r, .slice X v.length Y, .slice none 0 0]) ?_ 3 _ rfl; (with_reducible repeat (first | refine Zac ?_ _ | refine Zab ?_ | refine Zaa ?_ _)); refine Zao (cs := #[.int .i64 I, .int .i64 r, .slice none 0 0, .slice none 0 0]) ?_ 2 _ rfl; (with_reducible repeat (first | refine Zac ?_ _ | refine Zab ?_ | refine Zaa ?_ _)); refine Zao (cs := #[.int .i64 I, .int .i64 0, .slice none 0 0, .slice none 0 0]) ?_ 1 _ rfl; (with_reducible repeat (first | refine Zac ?_ _ | refine Zab ?_ | refine Zaa ?_ _)); refine Zao (cs := #[.int .i64 0, .int .i64 0, .slice none 0 0, .slice none 0 0]) ?_ 0 _ rfl; exact bP u.out) hb); clear hb hbox hg; have cO := ak.out; have cQ := z.out; have cR := al.out; have cS := A.out; have cT := am.out; have cU := B.out; obtain ⟨br, bs, bu, bv⟩ := Zau j.out; obtain ⟨bw, bx, bz, bA⟩ := frz4 j.out; obtain ⟨bB, bC, bD, bF⟩ := Zau u.out; obtain ⟨bG, bH, bI, bJ⟩ := frz4 u.out))
 go_loopg [25] k (fun kq v25 w' => ∃ (y : Int) (l : Int), v25 = .int .i64 y ∧ Zad (Zaz.l0 kq v (v.length : Int) y q r l s = some (r1, r2, r3, r4, r5)) ∧ Zad (kq ≤ k) ∧ Zad (Kd.R Kd.bool 4 w' w.heap.size (fun _ => True) (.slice X v.length Y) v) ∧ Zad (Kd.R Kd.bool 4 w' w.heap.size (fun _ => True) (.slice X v.length Y) v) ∧ Zad (Kd.S (Kd.slice 2 (Kd.int .i64)) 33 w' w.heap.size (fun _ => True) (.slice E s.length G) s) ∧ Zad (Kd.S (Kd.slice 2 (Kd.int .i64)) 33 w' w.heap.size (fun _ => True) (.slice E s.length G) s) ∧ Zad (w'.heap[ah]? = some (.cells #[.int .i64 q, .int .i64 W, (.slice ad J.length ae), (.slice af L.length ag)] 63 (0, 0))) ∧ Zad (w'.heap[x]? = some (.cells #[.int .i64 0, .int .i64 0, .int .i64 0, (.slice none 0 0)] 26 (0, 0))) ∧ Zad (w'.heap[D]? = some (.cells #[.int .i64 I, .int .i64 r, (.slice X v.length Y), (.slice E s.length G)] 63 (0, 0))) ∧ Zad (w'.heap[d]? = some (.cells #[.int .i64 q, .int .i64 r, .int .i64 l, (.slice E s.length G)] 26 (0, 0))) ∧ Zad (Below w.heap.size w w'))
 case atStart => exact ⟨(0), (0), (eW), H', ⟨Nat.le_refl _⟩, ⟨by (with_reducible repeat (first | apply zD | apply zE | apply zA)); exact zC (zH (p := ⟨d, 3, none⟩) (zH (p := ⟨d, 2, none⟩) (zH (p := ⟨d, 1, none⟩) (zH (p := ⟨d, 0, none⟩) (zX O.out j.out (by decide)) (fun _ hk => hk.2) (.int .i64 q)) (fun _ hk => hk.2) (.int .i64 r)) (fun _ hk => hk.2) (.int .i64 0)) (fun _ hk => hk.2) (.slice E s.length G)) (fun _ hk => trivial)⟩, ⟨by (with_reducible repeat (first | apply zD | apply zE | apply zA)); exact zC (zH (p := ⟨d, 3, none⟩) (zH (p := ⟨d, 2, none⟩) (zH (p := ⟨d, 1, none⟩) (zH (p := ⟨d, 0, none⟩) (zX O.out j.out (by decide)) (fun _ hk => hk.2) (.int .i64 q)) (fun _ hk => hk.2) (.int .i64 r)) (fun _ hk => hk.2) (.int .i64 0)) (fun _ hk => hk.2) (.slice E s.length G)) (fun _ hk => trivial)⟩, ⟨by (with_reducible repeat (first | apply zI | apply zJ | apply zG)); exact zF (zB (p := ⟨d, 3, none⟩) (zB (p := ⟨d, 2, none⟩) (zB (p := ⟨d, 1, none⟩) (zB (p := ⟨d, 0, none⟩) (zR P.out j.out (by decide)) (fun _ hk => hk.2) (.int .i64 q)) (fun _ hk => hk.2) (.int .i64 r)) (fun _ hk => hk.2) (.int .i64 0)) (fun _ hk => hk.2) (.slice E s.length G)) (fun _ hk => trivial)⟩, ⟨by (with_reducible repeat (first | apply zI | apply zJ | apply zG)); exact zF (zB (p := ⟨d, 3, none⟩) (zB (p := ⟨d, 2, none⟩) (zB (p := ⟨d, 1, none⟩) (zB (p := ⟨d, 0, none⟩) (zR P.out j.out (by decide)) (fun _ hk => hk.2) (.int .i64 q)) (fun _ hk => hk.2) (.int .i64 r)) (fun _ hk => hk.2) (.int .i64 0)) (fun _ hk => hk.2) (.slice E s.length G)) (fun _ hk => trivial)⟩, ⟨by (with_reducible repeat (first | refine Zac ?_ _ | refine Zab ?_ | refine Zaa ?_ _)); refine Zak ?_ z.out _; (with_reducible repeat (first | refine Zac ?_ _ | refine Zab ?_ | refine Zaa ?_ _)); refine Zak ?_ z.out _; (with_reducible repeat (first | refine Zac ?_ _ | refine Zab ?_ | refine Zaa ?_ _)); refine Zak ?_ z.out _; (with_reducible repeat (first | refine Zac ?_ _ | refine Zab ?_ | refine Zaa ?_ _)); refine Zak ?_ z.out _; exact bP a.out⟩, ⟨by (with_reducible repeat (first | refine Zac ?_ _ | refine Zab ?_ | refine Zaa ?_ _)); refine Zak ?_ A.out _; (with_reducible repeat (first | refine Zac ?_ _ | refine Zab ?_ | refine Zaa ?_ _)); refine Zak ?_ A.out _; (with_reducible repeat (first | refine Zac ?_ _ | refine Zab ?_ | refine Zaa ?_ _)); refine Zak ?_ A.out _; (with_reducible repeat (first | refine Zac ?_ _ | refine Zab ?_ | refine Zaa ?_ _)); refine Zak ?_ A.out _; exact bP b.out⟩, ⟨by (with_reducible repeat (first | refine Zac ?_ _ | refine Zab ?_ | refine Zaa ?_ _)); refine Zak ?_ B.out _; (with_reducible repeat (first | refine Zac ?_ _ | refine Zab ?_ | refine Zaa ?_ _)); refine Zak ?_ B.out _; (with_reducible repeat (first | refine Zac ?_ _ | refine Zab ?_ | refine Zaa ?_ _)); refine Zak ?_ B.out _; (with_reducible repeat (first | refine Zac ?_ _ | refine Zab ?_ | refine Zaa ?_ _)); refine Zak ?_ B.out _; exact bP u.out⟩, ⟨by (with_reducible repeat (first | refine Zac ?_ _ | refine Zab ?_ | refine Zaa ?_ _)); refine Zao (cs := #[.int .i64 q, .int .i64 r, .int .i64 0, .slice none 0 0]) ?_ 3 _ rfl; (with_reducible repeat (first | refine Zac ?_ _ | refine Zab ?_ | refine Zaa ?_ _)); refine Zao (cs := #[.int .i64 q, .int .i64 r, .int .i64 0, .slice none 0 0]) ?_ 2 _ rfl; (with_reducible repeat (first | refine Zac ?_ _ | refine Zab ?_ | refine Zaa ?_ _)); refine Zao (cs := #[.int .i64 q, .int .i64 0, .int .i64 0, .slice none 0 0]) ?_ 1 _ rfl; (with_reducible repeat (first | refine Zac ?_ _ | refine Zab ?_ | refine Zaa ?_ _)); refine Zao (cs := #[.int .i64 0, .int .i64 0, .int .i64 0, .slice none 0 0]) ?_ 0 _ rfl; exact bP j.out⟩, ⟨bW⟩⟩
 case round =>
  clear H'
  try clear c1
  try clear c2
  try clear p2
  try clear c3
  try clear bK
  try clear bL
  try clear c4
  try clear c5
  try clear c6
  try clear c10
  try clear c11
  try clear c18
  try clear c22
  try clear c23
  try clear c29
  try clear c30
  try clear c31
  try clear aL
  try clear aM
  try clear aN
  try clear aO
  try clear aT
  try clear aU
  try clear aV
  try clear aW
  try clear a1
  try clear a2
  try clear a3
  try clear a4
  try clear a9
  try clear ba
  try clear bb
  try clear bd
  try clear bj
  try clear bk
  try clear bl
  try clear bm
  try clear br
  try clear bs
  try clear bu
  try clear bv
  try clear bB
  try clear bC
  try clear bD
  try clear bF
  try clear bM
  try clear bN
  try clear bO
  try clear bQ
  try clear aP
  try clear aQ
  try clear aR
  try clear aS
  try clear aX
  try clear aY
  try clear aZ
  try clear a0
  try clear a5
  try clear a6
  try clear a7
  try clear a8
  try clear bf
  try clear bg
  try clear bh
  try clear bi
  try clear bn
  try clear bo
  try clear bp
  try clear bq
  try clear bw
  try clear bx
  try clear bz
  try clear bA
  try clear bG
  try clear bH
  try clear bI
  try clear bJ
  try clear bR
  try clear bS
  try clear bT
  try clear bU
  obtain ⟨y, l, rfl, HA, aG, ai, T, U, M, a, b, u, j, HB⟩ := hrel
  cases gk with
  | zero => exact absurd HA.out (by simp [Zaz.l0])
  | succ k1 =>
   have H := HA.out
   clear HA
   simp only [Zaz.l0] at H
   by_cases ar : y < (v.length : Int); rotate_left
   ·rw [if_neg ar] at H
    have b3 := dF ar
    clear ar
    simp only [Option.some.injEq, Prod.mk.injEq] at H
    obtain ⟨rfl, rfl, rfl, rfl, rfl⟩ := H
    have cV := ak.out
    have cW := z.out
    have cX := al.out
    have cY := A.out
    have cZ := am.out
    have c0 := B.out
    have cd : wr.cell? ⟨d, 0, none⟩ = some (.int .i64 q) := bc j 0
    have ce : wr.cell? ⟨d, 1, none⟩ = some (.int .i64 r) := bc j 1
    have cf : wr.cell? ⟨d, 2, none⟩ = some (.int .i64 l) := bc j 2
    have cg : wr.cell? ⟨d, 3, none⟩ = some (.slice E s.length G) := bc j 3
    have ch := Zae j.out 0
    have ci := Zae j.out 1
    have cj := Zae j.out 2
    have ck := Zae j.out 3
    have da := ab.out
    have db := aa.out
    have dc := c.out
    have dd := ac.out
    have cm : wr.cell? ⟨x, 0, none⟩ = some (.int .i64 0) := bc b 0
    have cn : wr.cell? ⟨x, 1, none⟩ = some (.int .i64 0) := bc b 1
    have co : wr.cell? ⟨x, 2, none⟩ = some (.int .i64 0) := bc b 2
    have cp : wr.cell? ⟨x, 3, none⟩ = some (.slice none 0 0) := bc b 3
    have cq := Zae b.out 0
    have cr := Zae b.out 1
    have ct := Zae b.out 2
    have cu := Zae b.out 3
    go_wp2
    refine bodyPost_ret (Zdc rfl _ _ x 26 #[.int .i64 q, .int .i64 r, .int .i64 l, .slice E s.length G] (0, 0) _ rfl (by (with_reducible repeat (first | refine Zac ?_ _ | refine Zab ?_ | refine Zaa ?_ _)); refine Zao (cs := #[.int .i64 q, .int .i64 r, .int .i64 l, .slice none 0 0]) ?_ 3 _ rfl; (with_reducible repeat (first | refine Zac ?_ _ | refine Zab ?_ | refine Zaa ?_ _)); refine Zao (cs := #[.int .i64 q, .int .i64 r, .int .i64 0, .slice none 0 0]) ?_ 2 _ rfl; (with_reducible repeat (first | refine Zac ?_ _ | refine Zab ?_ | refine Zaa ?_ _)); refine Zao (cs := #[.int .i64 q, .int .i64 0, .int .i64 0, .slice none 0 0]) ?_ 1 _ rfl; (with_reducible repeat (first | refine Zac ?_ _ | refine Zab ?_ | refine Zaa ?_ _)); refine Zao (cs := #[.int .i64 0, .int .i64 0, .int .i64 0, .slice none 0 0]) ?_ 0 _ rfl; exact bP b.out) Try.underlying26 rfl (by kernel_rfl)) rfl ?_
    exact ⟨_, eW, by (with_reducible repeat (first | apply zI | apply zJ | apply zG)); exact zF (zB (p := ⟨x, 3, none⟩) (zB (p := ⟨x, 2, none⟩) (zB (p := ⟨x, 1, none⟩) (zB (p := ⟨x, 0, none⟩) (zR M.out b.out (by decide)) (fun _ hk => hk.2) (.int .i64 q)) (fun _ hk => hk.2) (.int .i64 r)) (fun _ hk => hk.2) (.int .i64 l)) (fun _ hk => hk.2) (.slice E s.length G)) (fun _ hk => trivial), bW⟩
   rw [if_pos ar] at H
   have b3 := dT ar
   clear ar
   by_cases aH : 0 ≤ y; rotate_left
   ·rw [if_neg aH] at H
    exact absurd H (by simp)
   rw [if_pos aH] at H
   have de := dT aH
   clear aH
   by_cases aI : y < (v.length : Int); rotate_left
   ·rw [if_neg aI] at H
    exact absurd H (by simp)
   rw [if_pos aI] at H
   have df := dT aI
   clear aI
   obtain ⟨cc, au⟩ : ∃ b_ : Bool, b_ = (rdOf false v y) := ⟨_, rfl⟩
   rw [← au] at H
   have aJ := mA au
   clear au
   by_cases aK : cc = true; rotate_left
   ·replace aK := Bool.eq_false_iff.mpr aK
    subst aK
    rw [iF] at H
    have H' := mA H
    clear H
    have an : 0 ≤ (y : Int) := ofD
    have ao : y < (v.length : Int) := ofD
    obtain ⟨b4, ax, ap⟩ := yC (zK ai.out).2.2 y an ao
    (try rw [← aJ.out] at ap)
    cases ax
    replace an := eq_true an
    replace ao := eq_true ao
    go_wp2
    go_roundg k1
    case measure => have := aG.out; omega
    case rel => exact ⟨(wrap64 (y + 1)), (l), (eW), H', ⟨by have := aG.out; omega⟩, ⟨rP ai.out⟩, ⟨rP T.out⟩, ⟨sP U.out⟩, ⟨sP M.out⟩, ⟨bP a.out⟩, ⟨bP b.out⟩, ⟨bP u.out⟩, ⟨bP j.out⟩, ⟨bW⟩⟩
   subst aK
   rw [if_pos rfl] at H
   replace H := bE H
   obtain ⟨aq, bV, H⟩ := H
   have cB := mA bV
   clear bV
   have H' := mA H
   clear H
   have an : 0 ≤ (y : Int) := ofD
   have ao : y < (v.length : Int) := ofD
   obtain ⟨b4, ax, ap⟩ := yC (zK ai.out).2.2 y an ao
   (try rw [← aJ.out] at ap)
   cases ax
   replace an := eq_true an
   replace ao := eq_true ao
   try go_wp2
   replace ai := mA (zA ai.out)
   replace T := mA (zA T.out)
   replace U := mA (zG U.out)
   replace M := mA (zG M.out)
   replace a := mA (Zab a.out)
   replace b := mA (Zab b.out)
   replace u := mA (Zab u.out)
   replace j := mA (Zab j.out)
   replace HB := mA (Za3 HB.out)
   refine start_ (n := 7) (S := fun w' => w'.cell? ⟨d, 0, none⟩ = some (.int .i64 q) ∧ w'.cell? ⟨d, 1, none⟩ = some (.int .i64 r) ∧ w'.cell? ⟨d, 2, none⟩ = some (.int .i64 l) ∧ w'.cell? ⟨d, 3, none⟩ = some (.slice E s.length G)) (ds := [6]) #[false, false, false, false, false, false, false] (by kernel_rfl) rfl rfl ⟨bc j 0, bc j 1, bc j 2, bc j 3⟩ (fun hHeld => ?_)
   generalize wr.drew = w40 at ai T U M a b u j HB hHeld ⊢
   refine Zav (i := 0) (N := some 31) (by kernel_rfl) ?_
   refine Zav (i := 2) (N := some 33) (by kernel_rfl) ?_
   refine Zbt (i := 1) (N := some 32) (by kernel_rfl) hHeld ?_
   refine one_ (i := 3) (N := some 34) #[true, true, true, true, false, false, false] rfl rfl (by kernel_rfl) (by decide) (fun K hK => ?_)
   refine goes_ Try.func71 (by kernel_rfl) rfl #[.int .i64 y] (by rfl) rfl rfl (by (try simp only [List.map_toArray, List.map_cons, List.map_nil]); first | done | rfl | (simp only [List.length_drop, List.length_take]; rfl)) ?_
   with_reducible refine (Zdf.calls y aq _ cB.out).mono ?_
   rintro e w' ⟨rfl, ⟨nd, rfl⟩⟩
   refine ⟨_, rfl, ?_⟩
   refine hK.out _ _ ⟨bc j 0, bc j 1, bc j 2, bc j 3⟩ (fun hHeld => ?_)
   clear hK K
   refine putS 34 ?_
   refine Zav (i := 4) (N := some 35) (by kernel_rfl) ?_
   refine Zav (i := 5) (N := some 36) (by kernel_rfl) ?_
   refine last_ (i := 6) (N := none) #[true, true, true, true, true, true, true] rfl rfl (by kernel_rfl) (by decide) (fun K hK => ?_)
   have dq : w40.cell? ⟨d, 2, none⟩ = some (.int .i64 l) := bc j 2
   have dg := Zae j.out 2
   have cv := z.out
   have cw := A.out
   have cx := B.out
   have cy := ak.out
   have cz := al.out
   have cA := am.out
   refine skip_ (w1 := ?_) (by rfl) rfl ?_ ?_
   rotate_left
   ·go_simp
    rfl
   refine hK.out _ _ ?_
   clear hK K
   refine done_ (by kernel_rfl) ?_
   try go_wp2
   go_roundg k1
   case measure => have := aG.out; omega
   case rel => exact ⟨(wrap64 (y + 1)), (Go.bits .or .i64 l aq), (eW), H', ⟨by have := aG.out; omega⟩, ⟨by (with_reducible repeat (first | apply zD | apply zE | apply zA)); exact zC (zH (p := ⟨d, 2, none⟩) (zX ai.out j.out (by decide)) (fun _ hk => hk.2) (.int .i64 (Go.bits .or .i64 l aq))) (fun _ hk => trivial)⟩, ⟨by (with_reducible repeat (first | apply zD | apply zE | apply zA)); exact zC (zH (p := ⟨d, 2, none⟩) (zX T.out j.out (by decide)) (fun _ hk => hk.2) (.int .i64 (Go.bits .or .i64 l aq))) (fun _ hk => trivial)⟩, ⟨by (with_reducible repeat (first | apply zI | apply zJ | apply zG)); exact zF (zB (p := ⟨d, 2, none⟩) (zR U.out j.out (by decide)) (fun _ hk => hk.2) (.int .i64 (Go.bits .or .i64 l aq))) (fun _ hk => trivial)⟩, ⟨by (with_reducible repeat (first | apply zI | apply zJ | apply zG)); exact zF (zB (p := ⟨d, 2, none⟩) (zR M.out j.out (by decide)) (fun _ hk => hk.2) (.int .i64 (Go.bits .or .i64 l aq))) (fun _ hk => trivial)⟩, ⟨by (with_reducible repeat (first | refine Zac ?_ _ | refine Zab ?_ | refine Zaa ?_ _)); refine Zak ?_ z.out _; exact bP a.out⟩, ⟨by (with_reducible repeat (first | refine Zac ?_ _ | refine Zab ?_ | refine Zaa ?_ _)); refine Zak ?_ A.out _; exact bP b.out⟩, ⟨by (with_reducible repeat (first | refine Zac ?_ _ | refine Zab ?_ | refine Zaa ?_ _)); refine Zak ?_ B.out _; exact bP u.out⟩, ⟨by (with_reducible repeat (first | refine Zac ?_ _ | refine Zab ?_ | refine Zaa ?_ _)); refine Zao (cs := #[.int .i64 q, .int .i64 r, .int .i64 l, .slice E s.length G]) ?_ 2 _ rfl; exact bP j.out⟩, ⟨bW⟩⟩
def Zbc.l0 : Nat → List Int → List Int → Int → Option (Bool)
 | 0, _, _, _ => none
 | k + 1, x0, x1, x5 => if x5 < (x0.length : Int) then (if 0 ≤ x5 then (if x5 < (x1.length : Int) then (if (rd x0 x5) = (rd x1 x5) then (Zbc.l0 k x0 x1 (wrap64 (x5 + 1))) else (some false)) else (none)) else (none)) else (some true)
def Zbc.f (k : Nat) (l0 : List Int) (l1 : List Int) : Option (Bool) := if (l0.length : Int) = (l1.length : Int) then (Zbc.l0 k l0 l1 0) else (some false)
theorem Zbc.calls (k : Nat) (A0 : Option Addr) (c0 : Nat) (l0 : List Int) (A1 : Option Addr) (c1 : Nat) (l1 : List Int) (r : Bool) (w : World) (t : Kd.C (Kd.int .i64) w A0 l0.length l0) (u : l0.length ≤ c0) (v : Kd.C (Kd.int .i64) w A1 l1.length l1) (x : l1.length ≤ c1) (h : Zbc.f k l0 l1 = some r) :
  Calls Try.prog 21 #[.slice A0 l0.length c0, .slice A1 l1.length c1] w fun e w' => e = .returned (.bool r) ∧ Zas w w' := by
 have y := mA t
 have I := mA u
 clear t u
 have z := mA v
 have J := mA x
 clear v x
 unfold Zbc.f at h
 have H := h
 clear h
 by_cases c3 : (l0.length : Int) = (l1.length : Int); rotate_left
 ·rw [if_neg c3] at H
  have n : ((l0.length : Int) == (l1.length : Int)) = false := beq_eq_false_iff_ne.mpr c3
  have o : ((l0.length : Int) != (l1.length : Int)) = true := bne_iff_ne.mpr c3
  have p : (l0.length == l1.length) = false := by first | simpa using c3 | (simp at c3 ⊢; omega)
  obtain rfl := oI H
  go_enter Try.func21, Try.ntmps21
  go_wp2
  repeat (go_quiet (fail); try go_wp2)
  go_ret
  exact ⟨eW, by repeat (first | exact Zas.refl _ | apply Zas.step)⟩
 rw [if_pos c3] at H
 have n : ((l0.length : Int) == (l1.length : Int)) = true := beq_iff_eq.mpr c3
 have o : ((l0.length : Int) != (l1.length : Int)) = false := bne_eq_false_iff_eq.mpr c3
 have p : (l0.length == l1.length) = true := by first | simpa using c3 | (simp at c3 ⊢; omega)
 clear c3
 have H' := mA H
 clear H
 go_enter Try.func21, Try.ntmps21
 go_wp2
 repeat (go_quiet (fail); try go_wp2)
 go_loopg [5] k (fun kq v5 w' => ∃ (a : Int), v5 = .int .i64 a ∧ Zad (Zbc.l0 kq l0 l1 a = some r) ∧ Zad (kq ≤ k) ∧ Zas w w')
 case atStart => exact ⟨(0), (eW), H', ⟨Nat.le_refl _⟩, by repeat (first | exact Zas.refl _ | apply Zas.step)⟩
 case round =>
  clear H'
  try clear c1
  try clear c2
  try clear p2
  try clear c3
  try clear n
  try clear o
  try clear p
  obtain ⟨a, rfl, HA, HK1, ⟨m1, rfl⟩⟩ := hrel
  cases gk with
  | zero => exact absurd HA.out (by simp [Zbc.l0])
  | succ k1 =>
   have H := HA.out
   clear HA
   simp only [Zbc.l0] at H
   by_cases c4 : a < (l0.length : Int); rotate_left
   ·rw [if_neg c4] at H
    have A := dF c4
    clear c4
    obtain rfl := oI H
    go_wp2
    repeat (go_quiet (fail); try go_wp2)
    go_ret
    exact ⟨eW, by repeat (first | exact Zas.refl _ | apply Zas.step)⟩
   rw [if_pos c4] at H
   have A := dT c4
   clear c4
   by_cases c5 : 0 ≤ a; rotate_left
   ·rw [if_neg c5] at H
    exact absurd H (by simp)
   rw [if_pos c5] at H
   have E := dT c5
   clear c5
   by_cases c6 : a < (l1.length : Int); rotate_left
   ·rw [if_neg c6] at H
    exact absurd H (by simp)
   rw [if_pos c6] at H
   have G := dT c6
   clear c6
   by_cases c7 : (rd l0 a) = (rd l1 a); rotate_left
   ·rw [if_neg c7] at H
    have B : ((rd l0 a) == (rd l1 a)) = false := beq_eq_false_iff_ne.mpr c7
    have D : ((rd l0 a) != (rd l1 a)) = true := bne_iff_ne.mpr c7
    obtain rfl := oI H
    have b : 0 ≤ (a : Int) := ofD
    have c : a < (l0.length : Int) := ofD
    obtain ⟨q, i, l⟩ := zO y.out a b c
    cases i
    replace b := eq_true b
    replace c := eq_true c
    have d : 0 ≤ (a : Int) := ofD
    have g : a < (l1.length : Int) := ofD
    obtain ⟨s, j, m⟩ := zO z.out a d g
    cases j
    replace d := eq_true d
    replace g := eq_true g
    go_wp2
    repeat (go_quiet (fail); try go_wp2)
    go_ret
    exact ⟨eW, by repeat (first | exact Zas.refl _ | apply Zas.step)⟩
   rw [if_pos c7] at H
   have B : ((rd l0 a) == (rd l1 a)) = true := beq_iff_eq.mpr c7
   have D : ((rd l0 a) != (rd l1 a)) = false := bne_eq_false_iff_eq.mpr c7
   clear c7
   have H' := mA H
   clear H
   have b : 0 ≤ (a : Int) := ofD
   have c : a < (l0.length : Int) := ofD
   obtain ⟨q, i, l⟩ := zO y.out a b c
   cases i
   replace b := eq_true b
   replace c := eq_true c
   have d : 0 ≤ (a : Int) := ofD
   have g : a < (l1.length : Int) := ofD
   obtain ⟨s, j, m⟩ := zO z.out a d g
   cases j
   replace d := eq_true d
   replace g := eq_true g
   go_wp2
   repeat (go_quiet (fail); try go_wp2)
   go_roundg k1
   case measure => have := HK1.out; omega
   case rel => exact ⟨(wrap64 (a + 1)), (eW), H', ⟨by have := HK1.out; omega⟩, by repeat (first | exact Zas.refl _ | apply Zas.step)⟩
def Zbm.l0 : Nat → List (List Int) → List (List Int) → Int → Option (Bool)
 | 0, _, _, _ => none
 | k + 1, x0, x1, x5 => if x5 < (x0.length : Int) then (if 0 ≤ x5 then (if x5 < (x1.length : Int) then ((Zbc.f k (Zah x0 x5) (Zah x1 x5)).bind fun a => (if a = true then (Zbm.l0 k x0 x1 (wrap64 (x5 + 1))) else (some false))) else (none)) else (none)) else (some true)
def Zbm.f (k : Nat) (l0 : List (List Int)) (l1 : List (List Int)) : Option (Bool) := if (l0.length : Int) = (l1.length : Int) then (Zbm.l0 k l0 l1 0) else (some false)
theorem Zbm.calls (k : Nat) (A0 : Option Addr) (c0 : Nat) (l0 : List (List Int)) (A1 : Option Addr) (c1 : Nat) (l1 : List (List Int)) (r : Bool) (w : World) (J : Kd.C (Kd.slice 2 (Kd.int .i64)) w A0 l0.length l0) (K : l0.length ≤ c0) (L : Kd.C (Kd.slice 2 (Kd.int .i64)) w A1 l1.length l1) (M : l1.length ≤ c1) (h : Zbm.f k l0 l1 = some r) :
  Calls Try.prog 25 #[.slice A0 l0.length c0, .slice A1 l1.length c1] w fun e w' => e = .returned (.bool r) ∧ Zas w w' := by
 have O := mA J
 have aa := mA K
 clear J K
 have P := mA L
 have ab := mA M
 clear L M
 unfold Zbm.f at h
 have H := h
 clear h
 by_cases c3 : (l0.length : Int) = (l1.length : Int); rotate_left
 ·rw [if_neg c3] at H
  have x : ((l0.length : Int) == (l1.length : Int)) = false := beq_eq_false_iff_ne.mpr c3
  have y : ((l0.length : Int) != (l1.length : Int)) = true := bne_iff_ne.mpr c3
  have z : (l0.length == l1.length) = false := by first | simpa using c3 | (simp at c3 ⊢; omega)
  obtain rfl := oI H
  go_enter Try.func25, Try.ntmps25
  go_wp2
  repeat (go_quiet (fail); try go_wp2)
  go_ret
  exact ⟨eW, by repeat (first | exact Zas.refl _ | apply Zas.step)⟩
 rw [if_pos c3] at H
 have x : ((l0.length : Int) == (l1.length : Int)) = true := beq_iff_eq.mpr c3
 have y : ((l0.length : Int) != (l1.length : Int)) = false := bne_eq_false_iff_eq.mpr c3
 have z : (l0.length == l1.length) = true := by first | simpa using c3 | (simp at c3 ⊢; omega)
 clear c3
 have H' := mA H
 clear H
 go_enter Try.func25, Try.ntmps25
 go_wp2
 repeat (go_quiet (fail); try go_wp2)
 go_loopg [5] k (fun kq v5 w' => ∃ (a : Int), v5 = .int .i64 a ∧ Zad (Zbm.l0 kq l0 l1 a = some r) ∧ Zad (kq ≤ k) ∧ Zas w w')
 case atStart => exact ⟨(0), (eW), H', ⟨Nat.le_refl _⟩, by repeat (first | exact Zas.refl _ | apply Zas.step)⟩
 case round =>
  clear H'
  try clear c1
  try clear c2
  try clear p2
  try clear c3
  try clear x
  try clear y
  try clear z
  obtain ⟨a, rfl, HA, HK1, ⟨m1, rfl⟩⟩ := hrel
  cases gk with
  | zero => exact absurd HA.out (by simp [Zbm.l0])
  | succ k1 =>
   have H := HA.out
   clear HA
   simp only [Zbm.l0] at H
   by_cases c4 : a < (l0.length : Int); rotate_left
   ·rw [if_neg c4] at H
    have U := dF c4
    clear c4
    obtain rfl := oI H
    go_wp2
    repeat (go_quiet (fail); try go_wp2)
    go_ret
    exact ⟨eW, by repeat (first | exact Zas.refl _ | apply Zas.step)⟩
   rw [if_pos c4] at H
   have U := dT c4
   clear c4
   by_cases c5 : 0 ≤ a; rotate_left
   ·rw [if_neg c5] at H
    exact absurd H (by simp)
   rw [if_pos c5] at H
   have X := dT c5
   clear c5
   by_cases c6 : a < (l1.length : Int); rotate_left
   ·rw [if_neg c6] at H
    exact absurd H (by simp)
   rw [if_pos c6] at H
   have Y := dT c6
   clear c6
   replace H := bE H
   obtain ⟨W, T, H⟩ := H
   have A7 := mA T
   clear T
   by_cases c8 : W = true; rotate_left
   ·replace c8 := Bool.eq_false_iff.mpr c8
    subst c8
    rw [iF] at H
    obtain rfl := oI H
    have n : 0 ≤ (a : Int) := ofD
    have o : a < (l0.length : Int) := ofD
    obtain ⟨G, A, B, s, u, i, j⟩ := Zca O.out a n o
    cases s
    have b := mA j
    have c := mA i
    clear j i
    replace n := eq_true n
    replace o := eq_true o
    have p : 0 ≤ (a : Int) := ofD
    have q : a < (l1.length : Int) := ofD
    obtain ⟨I, D, E, t, v, l, m⟩ := Zca P.out a p q
    cases t
    have d := mA m
    have g := mA l
    clear m l
    replace p := eq_true p
    replace q := eq_true q
    go_wp2_with (first | (go_at_call 21; (with_reducible refine (Zbc.calls k1 _ _ (Zah l0 a) _ _ (Zah l1 a) false _ ?side1 ?side2 ?side3 ?side4 A7.out).mono ?_); (case side1 => exact cP b.out); (case side2 => exact c.out); (case side3 => exact cP d.out); (case side4 => exact g.out); rintro e w' ⟨rfl, ⟨nd, rfl⟩⟩; (try first | exact dwD | exact dwE)))
    repeat (go_quiet (first | (go_at_call 21; (with_reducible refine (Zbc.calls k1 _ _ (Zah l0 a) _ _ (Zah l1 a) false _ ?side1 ?side2 ?side3 ?side4 A7.out).mono ?_); (case side1 => exact cP b.out); (case side2 => exact c.out); (case side3 => exact cP d.out); (case side4 => exact g.out); rintro e w' ⟨rfl, ⟨nd, rfl⟩⟩; (try first | exact dwD | exact dwE))); try go_wp2_with (first | (go_at_call 21; (with_reducible refine (Zbc.calls k1 _ _ (Zah l0 a) _ _ (Zah l1 a) false _ ?side1 ?side2 ?side3 ?side4 A7.out).mono ?_); (case side1 => exact cP b.out); (case side2 => exact c.out); (case side3 => exact cP d.out); (case side4 => exact g.out); rintro e w' ⟨rfl, ⟨nd, rfl⟩⟩; (try first | exact dwD | exact dwE))))
    go_ret
    exact ⟨eW, by repeat (first | exact Zas.refl _ | apply Zas.step)⟩
   subst c8
   rw [if_pos rfl] at H
   have H' := mA H
   clear H
   have n : 0 ≤ (a : Int) := ofD
   have o : a < (l0.length : Int) := ofD
   obtain ⟨G, A, B, s, u, i, j⟩ := Zca O.out a n o
   cases s
   have b := mA j
   have c := mA i
   clear j i
   replace n := eq_true n
   replace o := eq_true o
   have p : 0 ≤ (a : Int) := ofD
   have q : a < (l1.length : Int) := ofD
   obtain ⟨I, D, E, t, v, l, m⟩ := Zca P.out a p q
   cases t
   have d := mA m
   have g := mA l
   clear m l
   replace p := eq_true p
   replace q := eq_true q
   go_wp2_with (first | (go_at_call 21; (with_reducible refine (Zbc.calls k1 _ _ (Zah l0 a) _ _ (Zah l1 a) true _ ?side1 ?side2 ?side3 ?side4 A7.out).mono ?_); (case side1 => exact cP b.out); (case side2 => exact c.out); (case side3 => exact cP d.out); (case side4 => exact g.out); rintro e w' ⟨rfl, ⟨nd, rfl⟩⟩; (try first | exact dwD | exact dwE)))
   repeat (go_quiet (first | (go_at_call 21; (with_reducible refine (Zbc.calls k1 _ _ (Zah l0 a) _ _ (Zah l1 a) true _ ?side1 ?side2 ?side3 ?side4 A7.out).mono ?_); (case side1 => exact cP b.out); (case side2 => exact c.out); (case side3 => exact cP d.out); (case side4 => exact g.out); rintro e w' ⟨rfl, ⟨nd, rfl⟩⟩; (try first | exact dwD | exact dwE))); try go_wp2_with (first | (go_at_call 21; (with_reducible refine (Zbc.calls k1 _ _ (Zah l0 a) _ _ (Zah l1 a) true _ ?side1 ?side2 ?side3 ?side4 A7.out).mono ?_); (case side1 => exact cP b.out); (case side2 => exact c.out); (case side3 => exact cP d.out); (case side4 => exact g.out); rintro e w' ⟨rfl, ⟨nd, rfl⟩⟩; (try first | exact dwD | exact dwE))))
   go_roundg k1
   case measure => have := HK1.out; omega
   case rel => exact ⟨(wrap64 (a + 1)), (eW), H', ⟨by have := HK1.out; omega⟩, by repeat (first | exact Zas.refl _ | apply Zas.step)⟩
def Zbj.f (k : Nat) (a : Int) (b : Int) (c : Int) (d : List (List Int)) (e : Int) (g : Int) (h : Int) (i : List (List Int)) : Option (Bool) := if a = e then (if b = g then (if c = h then ((Zbm.f k d i).bind fun j => (if j = true then (some true) else (some false))) else (some false)) else (some false)) else (some false)
theorem Zbj.calls (k : Nat) (j : Int) (l : Int) (m : Int) (q : Option Addr) (s : Nat) (g : List (List Int)) (n : Int) (o : Int) (p : Int) (u : Option Addr) (v : Nat) (i : List (List Int)) (r : Bool) (w : World) (E : Kd.C (Kd.slice 2 (Kd.int .i64)) w q g.length g) (G : g.length ≤ s) (I : Kd.C (Kd.slice 2 (Kd.int .i64)) w u i.length i) (J : i.length ≤ v) (h : Zbj.f k j l m g n o p i = some r) :
  Calls Try.prog 13 #[.agg #[.int .i64 j, .int .i64 l, .int .i64 m, .slice q g.length s], .agg #[.int .i64 n, .int .i64 o, .int .i64 p, .slice u i.length v]] w fun e w' => e = .returned (.bool r) ∧ Below w.heap.size w w' := by
 have bK := Try.underlying26
 have K := mA E
 have L := mA G
 clear E G
 have M := mA I
 have O := mA J
 clear I J
 have HB := mA (Below.refl w.heap.size w)
 unfold Zbj.f at h
 have H := h
 clear h
 by_cases c3 : j = n; rotate_left
 ·rw [if_neg c3] at H
  have T : (j == n) = false := beq_eq_false_iff_ne.mpr c3
  have U : (j != n) = true := bne_iff_ne.mpr c3
  obtain rfl := oI H
  go_enter Try.func13, Try.ntmps13
  go_wp2_with (first | ((with_reducible refine Zap (N := 2) rfl ?_); refine boxS (N := 2) (cs := #[.int .i64 j, .int .i64 l, .int .i64 m, .slice q g.length s]) (t := 26) ?_; intro x hg bL hbox hb; have a := mA (hbox); have y := geW (w := w) hg; have z := geW (w := w) hg; replace HB := mA (Zaf (bW) hb); clear hb hbox hg) | ((with_reducible refine Zap (N := 3) rfl ?_); refine boxS (N := 3) (cs := #[.int .i64 n, .int .i64 o, .int .i64 p, .slice u i.length v]) (t := 26) ?_; intro A hg bM hbox hb; have d := mA (hbox); have B := geW (w := w) hg; have D := geW (w := w) hg; replace HB := mA (Zaf (bW) hb); have b := mA (neB hg a); have c := mA (neC hg a); replace a := mA (blkB a.out hb); clear hb hbox hg; have bz := b.out; have bA := c.out; obtain ⟨ac, ad, ae, af⟩ := Zau a.out; obtain ⟨ag, ah, ai, aj⟩ := frz4 a.out; obtain ⟨ak, al, am, an⟩ := Zau d.out; obtain ⟨ao, ap, aq, ar⟩ := frz4 d.out))
  go_ret
  exact ⟨eW, bW⟩
 rw [if_pos c3] at H
 have T : (j == n) = true := beq_iff_eq.mpr c3
 have U : (j != n) = false := bne_eq_false_iff_eq.mpr c3
 clear c3
 by_cases c4 : l = o; rotate_left
 ·rw [if_neg c4] at H
  have W : (l == o) = false := beq_eq_false_iff_ne.mpr c4
  have X : (l != o) = true := bne_iff_ne.mpr c4
  obtain rfl := oI H
  go_enter Try.func13, Try.ntmps13
  go_wp2_with (first | ((with_reducible refine Zap (N := 2) rfl ?_); refine boxS (N := 2) (cs := #[.int .i64 j, .int .i64 l, .int .i64 m, .slice q g.length s]) (t := 26) ?_; intro x hg bN hbox hb; have a := mA (hbox); have y := geW (w := w) hg; have z := geW (w := w) hg; replace HB := mA (Zaf (bW) hb); clear hb hbox hg) | ((with_reducible refine Zap (N := 3) rfl ?_); refine boxS (N := 3) (cs := #[.int .i64 n, .int .i64 o, .int .i64 p, .slice u i.length v]) (t := 26) ?_; intro A hg bO hbox hb; have d := mA (hbox); have B := geW (w := w) hg; have D := geW (w := w) hg; replace HB := mA (Zaf (bW) hb); have b := mA (neB hg a); have c := mA (neC hg a); replace a := mA (blkB a.out hb); clear hb hbox hg; have bB := b.out; have bC := c.out; obtain ⟨au, av, aw, ax⟩ := Zau a.out; obtain ⟨ay, az, aA, aB⟩ := frz4 a.out; obtain ⟨aC, aD, aE, aF⟩ := Zau d.out; obtain ⟨aG, aH, aI, aJ⟩ := frz4 d.out))
  go_ret
  exact ⟨eW, bW⟩
 rw [if_pos c4] at H
 have W : (l == o) = true := beq_iff_eq.mpr c4
 have X : (l != o) = false := bne_eq_false_iff_eq.mpr c4
 clear c4
 by_cases c5 : m = p; rotate_left
 ·rw [if_neg c5] at H
  have Y : (m == p) = false := beq_eq_false_iff_ne.mpr c5
  have aa : (m != p) = true := bne_iff_ne.mpr c5
  obtain rfl := oI H
  go_enter Try.func13, Try.ntmps13
  go_wp2_with (first | ((with_reducible refine Zap (N := 2) rfl ?_); refine boxS (N := 2) (cs := #[.int .i64 j, .int .i64 l, .int .i64 m, .slice q g.length s]) (t := 26) ?_; intro x hg bQ hbox hb; have a := mA (hbox); have y := geW (w := w) hg; have z := geW (w := w) hg; replace HB := mA (Zaf (bW) hb); clear hb hbox hg) | ((with_reducible refine Zap (N := 3) rfl ?_); refine boxS (N := 3) (cs := #[.int .i64 n, .int .i64 o, .int .i64 p, .slice u i.length v]) (t := 26) ?_; intro A hg bR hbox hb; have d := mA (hbox); have B := geW (w := w) hg; have D := geW (w := w) hg; replace HB := mA (Zaf (bW) hb); have b := mA (neB hg a); have c := mA (neC hg a); replace a := mA (blkB a.out hb); clear hb hbox hg; have bD := b.out; have bF := c.out; obtain ⟨aK, aL, aM, aN⟩ := Zau a.out; obtain ⟨aO, aP, aQ, aR⟩ := frz4 a.out; obtain ⟨aS, aT, aU, aV⟩ := Zau d.out; obtain ⟨aW, aX, aY, aZ⟩ := frz4 d.out))
  go_ret
  exact ⟨eW, bW⟩
 rw [if_pos c5] at H
 have Y : (m == p) = true := beq_iff_eq.mpr c5
 have aa : (m != p) = false := bne_eq_false_iff_eq.mpr c5
 clear c5
 replace H := bE H
 obtain ⟨ab, P, H⟩ := H
 have A6 := mA P
 clear P
 by_cases c7 : ab = true
 ·subst c7
  rw [if_pos rfl] at H
  obtain rfl := oI H
  go_enter Try.func13, Try.ntmps13
  go_wp2_with (first | ((with_reducible refine Zap (N := 2) rfl ?_); refine boxS (N := 2) (cs := #[.int .i64 j, .int .i64 l, .int .i64 m, .slice q g.length s]) (t := 26) ?_; intro x hg w8 hbox hb; have a := mA (hbox); have y := geW (w := w) hg; have z := geW (w := w) hg; replace HB := mA (Zaf (bW) hb); clear hb hbox hg) | ((with_reducible refine Zap (N := 3) rfl ?_); refine boxS (N := 3) (cs := #[.int .i64 n, .int .i64 o, .int .i64 p, .slice u i.length v]) (t := 26) ?_; intro A hg w9 hbox hb; have d := mA (hbox); have B := geW (w := w) hg; have D := geW (w := w) hg; replace HB := mA (Zaf (bW) hb); have b := mA (neB hg a); have c := mA (neC hg a); replace a := mA (blkB a.out hb); clear hb hbox hg; have bG := b.out; have bH := c.out; obtain ⟨a0, a1, a2, a3⟩ := Zau a.out; obtain ⟨a4, a5, a6, a7⟩ := frz4 a.out; obtain ⟨a8, a9, ba, bb⟩ := Zau d.out; obtain ⟨bc, bd, bf, bg⟩ := frz4 d.out) | ((with_reducible refine Zar (f := 25) rfl ?_); refine Za2 (some 24) Try.func25 #[.slice q g.length s, .slice u i.length v] ?_; (with_reducible refine (Zbm.calls k _ _ g _ _ i true _ ?side1 ?side2 ?side3 ?side4 A6.out).mono ?_); (case side1 => exact cP (zL K.out HB.out)); (case side2 => exact L.out); (case side3 => exact cP (zL M.out HB.out)); (case side4 => exact O.out); rintro e w' ⟨rfl, ⟨nd, rfl⟩⟩; refine ⟨_, rfl, ?_⟩))
  go_ret
  exact ⟨eW, bW⟩
 replace c7 := Bool.eq_false_iff.mpr c7
 subst c7
 rw [iF] at H
 obtain rfl := oI H
 go_enter Try.func13, Try.ntmps13
 go_wp2_with (first | ((with_reducible refine Zap (N := 2) rfl ?_); refine boxS (N := 2) (cs := #[.int .i64 j, .int .i64 l, .int .i64 m, .slice q g.length s]) (t := 26) ?_; intro x hg bS hbox hb; have a := mA (hbox); have y := geW (w := w) hg; have z := geW (w := w) hg; replace HB := mA (Zaf (bW) hb); clear hb hbox hg) | ((with_reducible refine Zap (N := 3) rfl ?_); refine boxS (N := 3) (cs := #[.int .i64 n, .int .i64 o, .int .i64 p, .slice u i.length v]) (t := 26) ?_; intro A hg bT hbox hb; have d := mA (hbox); have B := geW (w := w) hg; have D := geW (w := w) hg; replace HB := mA (Zaf (bW) hb); have b := mA (neB hg a); have c := mA (neC hg a); replace a := mA (blkB a.out hb); clear hb hbox hg; have bI := b.out; have bJ := c.out; obtain ⟨bh, bi, bj, bk⟩ := Zau a.out; obtain ⟨bl, bm, bn, bo⟩ := frz4 a.out; obtain ⟨bp, bq, br, bs⟩ := Zau d.out; obtain ⟨bu, bv, bw, bx⟩ := frz4 d.out) | ((with_reducible refine Zar (f := 25) rfl ?_); refine Za2 (some 24) Try.func25 #[.slice q g.length s, .slice u i.length v] ?_; (with_reducible refine (Zbm.calls k _ _ g _ _ i false _ ?side1 ?side2 ?side3 ?side4 A6.out).mono ?_); (case side1 => exact cP (zL K.out HB.out)); (case side2 => exact L.out); (case side3 => exact cP (zL M.out HB.out)); (case side4 => exact O.out); rintro e w' ⟨rfl, ⟨nd, rfl⟩⟩; refine ⟨_, rfl, ?_⟩))
 go_ret
 exact ⟨eW, bW⟩
end Go.Proofs.Ytgindgodfcfgkaa.P
end M0
section M1
namespace Go.Proofs.Ytgindgodfcfgkaa.P
open Go.RowKit Go.Proofs.Ytgindgodfcfgkaa.Sh Go.Proofs.YtgindgodfcfgkaaW.PrintWords Go.Proofs.YtgindgodfcfgkaaW.PrintLast Go.Proofs.YtgindgodfcfgkaaW.PrintMore
open Kd
attribute [local go_sem] Zcc Zcd Zck Zcl Zb2 Zb3 Zce Zcb   -- for this text's walks alone
set_option linter.unusedVariables false
set_option linter.unusedSimpArgs false
def Zbh.l0 : Nat → List Int → Int → Int → Option (Int × List Int)
 | 0, _, _, _ => none
 | k + 1, x0, x1, x5 => if x5 < (x0.length : Int) then (if 0 ≤ x5 then (Zbh.l0 k (x0.set (x5 : Int).toNat x1) (wrap64 (x1 + 1)) (wrap64 (x5 + 1))) else (none)) else (some (x1, x0))
def Zbh.f (k : Nat) (l0 : List Int) (a1 : Int) : Option (Int × List Int) := Zbh.l0 k l0 a1 0
theorem Zbh.calls (k : Nat) (d : Nat → Prop) (c : Value) (l0 : List Int) (a1 : Int) (r1 : Int) (r2 : List Int) (w0 w : World) (hB : Below w0.heap.size w0 w) (x : Kd.R (Kd.int .i64) 2 w w0.heap.size d c l0) (h : Zbh.f k l0 a1 = some (r1, r2)) :
  Calls Try.prog 22 #[c, .int .i64 a1] w fun e w' => e = .returned (.int .i64 r1) ∧ Kd.R (Kd.int .i64) 2 w' w0.heap.size (fun k_ => (d k_ ∨ w.heap.size ≤ k_)) c r2 ∧ Below w0.heap.size w0 w' ∧ Kept w w' (fun k_ => d k_) := by
 have y := mA (show Kd.R (Kd.int .i64) 2 w w0.heap.size (fun k_ => (d k_ ∨ w.heap.size ≤ k_)) c l0 from zC x (fun k_ hk => (.inl hk)))
 have HK := mA (Kept.refl w (fun k_ => d k_))
 have L := mA hB.size
 have HB := mA hB
 clear hB
 unfold Zbh.f at h
 have H := h
 clear h
 have H' := mA H
 clear H
 go_enter Try.func22, Try.ntmps22
 go_wp2
 go_loopg [1, 5] k (fun kq v1 v5 w' => ∃ (g : List Int) (i : Int) (a : Int), v1 = .int .i64 i ∧ v5 = .int .i64 a ∧ Zad (Zbh.l0 kq g i a = some (r1, r2)) ∧ Zad (kq ≤ k) ∧ Zad (Kd.R (Kd.int .i64) 2 w' w0.heap.size (fun k_ => (d k_ ∨ w.heap.size ≤ k_)) c g) ∧ Zad (Kept w w' (fun k_ => d k_)) ∧ Zad (Below w0.heap.size w0 w'))
 case atStart => exact ⟨(l0), (a1), (0), (eW), (eW), H', ⟨Nat.le_refl _⟩, ⟨rP y.out⟩, ⟨kW⟩, ⟨bW⟩⟩
 case round =>
  clear H'
  try clear c2
  try clear p2
  obtain ⟨g, i, a, rfl, rfl, HA, q, b, HK, HB⟩ := hrel
  cases gk with
  | zero => exact absurd HA.out (by simp [Zbh.l0])
  | succ k1 =>
   have H := HA.out
   clear HA
   simp only [Zbh.l0] at H
   by_cases c3 : a < (g.length : Int); rotate_left
   ·rw [if_neg c3] at H
    have v := dF c3
    clear c3
    simp only [Option.some.injEq, Prod.mk.injEq] at H
    obtain ⟨rfl, rfl⟩ := H
    obtain ⟨M, O, z⟩ := zP b.out
    subst z
    go_wp2
    go_ret
    exact ⟨eW, (rP b.out), bW, kW⟩
   rw [if_pos c3] at H
   have v := dT c3
   clear c3
   by_cases c4 : 0 ≤ a; rotate_left
   ·rw [if_neg c4] at H
    exact absurd H (by simp)
   rw [if_pos c4] at H
   have K := dT c4
   clear c4
   obtain ⟨m, j⟩ : ∃ y_ : List Int, y_ = (g.set (a : Int).toNat i) := ⟨_, rfl⟩
   rw [← j] at H
   have o := mA j
   clear j
   have H' := mA H
   clear H
   obtain ⟨P, A, B⟩ := zP b.out
   subst B
   have p5 : 0 ≤ (a : Int) := ofD
   have q5 : (a : Int) < ((g.length : Int) : Int) := ofD
   obtain ⟨l, T, r, s, D, U, u⟩ := yM b.out (by omega)
   (first | cases r | (injection r with ea_ en_ ec_; (first | subst ea_ | (injection ea_ with ea_; subst ea_)); subst ec_; clear en_))
   have E := mA s
   have W := mA u
   clear s D u
   have G := mA (show (d l ∨ w.heap.size ≤ l) from (b.out.1 _ rfl))
   obtain ⟨I, J⟩ := yF 0 b.out (a : Int) p5 q5
   replace p5 := eq_true p5
   replace q5 := eq_true q5
   have n := yG b.out (a : Int) i
   go_wp2_with (first | ((with_reducible refine Zbl (t := 2) (p := 15) rfl ?_); refine Zc2 (t := 2) (p := 15) (w1 := (wr.setCell ⟨l, (a : Int).toNat, none⟩ (.int .i64 i))) ?_; intro w8 hw; have hg : wr.grownBy w8 (some l) := (by rw [hw]; exact n.2); have hp_ : Kd.R (Kd.int .i64) 2 w8 w0.heap.size (fun k_ => (d k_ ∨ w.heap.size ≤ k_)) (.slice (some ⟨l, 0, none⟩) g.length A) m := (by rw [hw, o.out]; exact n.1); clear n; replace HB := mA ((by rw [hw]; exact Za7 (HB.out) E.out : Below w0.heap.size w0 w8)); replace HK := mA (Kept.of_grown (S := (fun k_ => d k_)) hg (kW) (fun k_ e_ => (b.out.1 k_ e_))); replace b := mA (hp_); clear hg hw hp_))
   go_roundg k1
   case measure => have := q.out; omega
   case rel => exact ⟨(m), (wrap64 (i + 1)), (wrap64 (a + 1)), (eW), (eW), H', ⟨by have := q.out; omega⟩, ⟨rP b.out⟩, ⟨kW⟩, ⟨bW⟩⟩
def Zbg.l0 : Nat → List (List Int) → Int → Int → Option (Int × List (List Int))
 | 0, _, _, _ => none
 | k + 1, x0, x1, x2 => if x2 < (x0.length : Int) then (if 0 ≤ x2 then ((Zbh.f k (rdOf ([] : List Int) x0 x2) x1).bind fun bt => Zbg.l0 k (x0.set (x2 : Int).toNat bt.2) bt.1 (wrap64 (x2 + 1))) else none) else some (x1, x0)
def Zbg.f (k : Nat) (l0 : List (List Int)) (a1 : Int) : Option (Int × List (List Int)) := Zbg.l0 k l0 a1 0
theorem Zbg.calls (k : Nat) (b : Nat → Prop) (a : Value) (l0 : List (List Int)) (a1 : Int) (r1 : Int) (r2 : List (List Int)) (w0 w : World) (hB : Below w0.heap.size w0 w) (d : Kd.S (Kd.slice 2 (Kd.int .i64)) 33 w w0.heap.size b a l0) (h : Zbg.f k l0 a1 = some (r1, r2)) :
    Calls Try.prog 26 #[a, .int .i64 a1] w fun e w' => e = .returned (.int .i64 r1) ∧ Kd.S (Kd.slice 2 (Kd.int .i64)) 33 w' w0.heap.size (fun k_ => b k_) a r2 ∧ Below w0.heap.size w0 w' ∧ Kept w w' (fun k_ => b k_) := by
  obtain ⟨A0, c0, hu⟩ := yD d
  subst hu
  have HO := mA d
  have HB := mA hB
  have HK := mA (Kept.refl w (fun k_ => b k_))
  clear d hB
  have H' := mA (show Zbg.l0 k l0 a1 0 = some (r1, r2) from h)
  clear h
  go_enter Try.func26, Try.ntmps26
  go_wp2
  go_loopg [1, 5] k (fun kq v1 v5 w' => ∃ (x0 : List (List Int)) (x1 : Int) (x2 : Int), v1 = .int .i64 x1 ∧ v5 = .int .i64 x2 ∧ Zad (Zbg.l0 kq x0 x1 x2 = some (r1, r2)) ∧ Zad (kq ≤ k) ∧ Zad (x0.length = l0.length) ∧ Zad (Kd.S (Kd.slice 2 (Kd.int .i64)) 33 w' w0.heap.size b (.slice A0 l0.length c0) x0) ∧ Zad (Below w0.heap.size w0 w') ∧ Zad (Kept w w' (fun k_ => b k_)))
  case atStart => exact ⟨l0, a1, 0, (eW), (eW), H', ⟨Nat.le_refl _⟩, ⟨rfl⟩, HO, HB, HK⟩
  case round =>
    clear H' HO HB HK
    obtain ⟨x0, x1, x2, rfl, rfl, HA, i, HL, HO, HB, HK⟩ := hrel
    cases gk with
    | zero => exact absurd HA.out (by simp [Zbg.l0])
    | succ k1 =>
      have H := HA.out
      clear HA
      simp only [Zbg.l0] at H
      rw [HL.out] at H
      by_cases c4 : x2 < (l0.length : Int); rotate_left
      · rw [if_neg c4] at H
        have j := dF c4
        simp only [Option.some.injEq, Prod.mk.injEq] at H
        obtain ⟨rfl, rfl⟩ := H
        go_wp2
        go_ret
        exact ⟨eW, HO.out, HB.out, HK.out⟩
      rw [if_pos c4] at H
      have j := dT c4
      by_cases c5 : 0 ≤ x2; rotate_left
      · rw [if_neg c5] at H
        exact absurd H (by simp)
      rw [if_pos c5] at H
      have p := dT c5
      obtain ⟨⟨t1, t2⟩, A60, H⟩ := bE H
      have A6 := mA A60
      have H' := mA (show Zbg.l0 k1 (x0.set x2.toNat t2) t1 (wrap64 (x2 + 1)) = some (r1, r2) from H)
      clear A60 H
      obtain ⟨g, hg⟩ : ∃ g, A0 = some ⟨g, 0, none⟩ := by
        obtain ⟨ad, _, hA, _⟩ := Zch.get_ (zW HO.out).2.2 ([] : List Int) x2 c5 (by have := HL.out; omega)
        subst hA
        obtain ⟨g, e⟩ := Kd.R_head (Kd.S_R HO.out)
        exact ⟨g, by rw [e]⟩
      subst hg
      obtain ⟨oki, c, _, ⟨v, hc, hR⟩, hx, hlend, hH⟩ := Kd.S_lend HO.out ([] : List Int) x2 c5 (by omega)
      subst hc
      have l := hx 0 v rfl
      have HR := mA hR
      have HH := mA hH
      have HE := mA hlend
      have q := eq_true c5
      have r := eq_true c4
      clear hR hH hlend hx c4 c5 HO
      simp only [show (Kd.slice 2 (Kd.int .i64)).sz = 1 from rfl, Nat.mul_one, Nat.add_zero] at l
      go_wp2_with (first | ((with_reducible refine Zar (f := 22) rfl ?_); refine Za2 (some 17) Try.func22 #[v, .int .i64 x1] ?_; (with_reducible refine (Zbh.calls _ oki v _ x1 t1 t2 w0 _ HB.out HR.out A6.out).mono ?_); rintro e w' ⟨rfl, hy, hb, hkp⟩; refine ⟨_, rfl, ?_⟩; have m := mA (Kd.H_back (Kd.H_kept HH.out hkp (fun _ _ h_ => h_)) (x' := t2) (okp := oki) ⟨v, rfl, Kd.R_reok rfl hy (fun k_ e_ => HR.out.1 k_ e_)⟩ (fun _ h_ => h_)); have n := mA (Kept.then_ HK.out hkp (fun k_ h_ => .inl (HE.out k_ h_).1)); have o := mA hb; clear hy hb hkp HH HR HK HB))
      go_roundg k1
      case measure => have := i.out; omega
      case rel => exact ⟨_, _, _, (eW), (eW), H', ⟨by have := i.out; omega⟩, ⟨by rw [List.length_set]; exact HL.out⟩, m, o, n⟩
def Zcf.f (k : Nat) (b : Int) (c : Int) (d : Int) (a : List (List Int)) (a1 : Int) : Option (Int × List (List Int)) := Zbg.f k a a1
theorem Zcf.calls (k : Nat) (g : Int) (i : Int) (j : Int) (a : Nat → Prop) (c : Value) (b : List (List Int)) (a1 : Int) (r1 : Int) (r2 : List (List Int)) (w0 w : World) (hB : Below w0.heap.size w0 w) (d : Kd.S (Kd.slice 2 (Kd.int .i64)) 33 w w0.heap.size a c b) (h : Zcf.f k g i j b a1 = some (r1, r2)) :
    Calls Try.prog 14 #[.agg #[.int .i64 g, .int .i64 i, .int .i64 j, c], .int .i64 a1] w fun e w' => e = .returned (.int .i64 r1) ∧ Kd.S (Kd.slice 2 (Kd.int .i64)) 33 w' w0.heap.size (fun k_ => a k_) c r2 ∧ Below w0.heap.size w0 w' ∧ Kept w w' (fun k_ => a k_) := by
  obtain ⟨A0, c0, hu⟩ := yD d
  subst hu
  have hu_ := Try.underlying26
  have HO := mA d
  have HB := mA hB
  have A3 := mA (show Zbg.f k b a1 = some (r1, r2) from h)
  clear d hB h
  go_enter Try.func14, Try.ntmps14
  go_wp2_with (first | ((with_reducible refine Zap (N := 2) rfl ?_); refine boxS (N := 2) (cs := #[.int .i64 g, .int .i64 i, .int .i64 j, .slice A0 b.length c0]) (t := 26) ?_; intro gb hg w2 hbox hb; obtain ⟨r, s, u, v⟩ := Zau hbox; have l := mA (zS HO.out hb); have m := mA (Zaf HB.out hb); have n := mA (Kept.of_below hb (fun k_ => a k_)); clear hb hbox HO HB hg) | ((with_reducible refine Zar (f := 26) rfl ?_); refine Za2 (some 8) Try.func26 #[.slice A0 b.length c0, .int .i64 a1] ?_; (with_reducible refine (Zbg.calls k a _ b a1 r1 r2 w0 _ m.out l.out A3.out).mono ?_); rintro e w' ⟨rfl, hy, hb, hkp⟩; refine ⟨_, rfl, ?_⟩; have o := mA hy; have p := mA hb; have q := mA (Kept.then_ n.out hkp (fun k_ h_ => .inl h_)); clear hy hb hkp l m n))
  go_ret
  exact ⟨eW, o.out, p.out, q.out⟩
def Zbk.l0 : Nat → List Int → Int → Int → Option (Int)
 | 0, _, _, _ => none
 | k + 1, x0, x1, x5 => if x5 < (x0.length : Int) then (if 0 ≤ x5 then (if (rd x0 x5) = x1 then (Zbk.l0 k x0 (wrap64 (x1 + 1)) (wrap64 (x5 + 1))) else (some (-1))) else (none)) else (some x1)
def Zbk.f (k : Nat) (l0 : List Int) (a1 : Int) : Option (Int) := Zbk.l0 k l0 a1 0
theorem Zbk.calls (k : Nat) (A0 : Option Addr) (c0 : Nat) (l0 : List Int) (a1 : Int) (r : Int) (w : World) (l : Kd.C (Kd.int .i64) w A0 l0.length l0) (m : l0.length ≤ c0) (h : Zbk.f k l0 a1 = some r) :
  Calls Try.prog 66 #[.slice A0 l0.length c0, .int .i64 a1] w fun e w' => e = .returned (.int .i64 r) ∧ Zas w w' := by
 have n := mA l
 have t := mA m
 clear l m
 unfold Zbk.f at h
 have H := h
 clear h
 have H' := mA H
 clear H
 go_enter Try.func66, Try.ntmps66
 go_wp2
 go_loopg [1, 5] k (fun kq v1 v5 w' => ∃ (b : Int) (a : Int), v1 = .int .i64 b ∧ v5 = .int .i64 a ∧ Zad (Zbk.l0 kq l0 b a = some r) ∧ Zad (kq ≤ k) ∧ Zas w w')
 case atStart => exact ⟨(a1), (0), (eW), (eW), H', ⟨Nat.le_refl _⟩, by repeat (first | exact Zas.refl _ | apply Zas.step)⟩
 case round =>
  clear H'
  try clear p2
  obtain ⟨b, a, rfl, rfl, HA, HK1, ⟨m1, rfl⟩⟩ := hrel
  cases gk with
  | zero => exact absurd HA.out (by simp [Zbk.l0])
  | succ k1 =>
   have H := HA.out
   clear HA
   simp only [Zbk.l0] at H
   by_cases c3 : a < (l0.length : Int); rotate_left
   ·rw [if_neg c3] at H
    have o := dF c3
    clear c3
    obtain rfl := oI H
    go_wp2
    go_ret
    exact ⟨eW, by repeat (first | exact Zas.refl _ | apply Zas.step)⟩
   rw [if_pos c3] at H
   have o := dT c3
   clear c3
   by_cases c4 : 0 ≤ a; rotate_left
   ·rw [if_neg c4] at H
    exact absurd H (by simp)
   rw [if_pos c4] at H
   have s := dT c4
   clear c4
   by_cases c5 : (rd l0 a) = b; rotate_left
   ·rw [if_neg c5] at H
    have p : ((rd l0 a) == b) = false := beq_eq_false_iff_ne.mpr c5
    have q : ((rd l0 a) != b) = true := bne_iff_ne.mpr c5
    obtain rfl := oI H
    have c : 0 ≤ (a : Int) := ofD
    have d : a < (l0.length : Int) := ofD
    obtain ⟨j, g, i⟩ := zO n.out a c d
    cases g
    replace c := eq_true c
    replace d := eq_true d
    go_wp2
    go_ret
    exact ⟨eW, by repeat (first | exact Zas.refl _ | apply Zas.step)⟩
   rw [if_pos c5] at H
   have p : ((rd l0 a) == b) = true := beq_iff_eq.mpr c5
   have q : ((rd l0 a) != b) = false := bne_eq_false_iff_eq.mpr c5
   clear c5
   have H' := mA H
   clear H
   have c : 0 ≤ (a : Int) := ofD
   have d : a < (l0.length : Int) := ofD
   obtain ⟨j, g, i⟩ := zO n.out a c d
   cases g
   replace c := eq_true c
   replace d := eq_true d
   go_wp2
   go_roundg k1
   case measure => have := HK1.out; omega
   case rel => exact ⟨(wrap64 (b + 1)), (wrap64 (a + 1)), (eW), (eW), H', ⟨by have := HK1.out; omega⟩, by repeat (first | exact Zas.refl _ | apply Zas.step)⟩
def Zbi.l0 : Nat → List (List Int) → Int → Int → Option (Int)
 | 0, _, _, _ => none
 | k + 1, x0, x1, x5 => if x5 < (x0.length : Int) then (if 0 ≤ x5 then ((Zbk.f k (Zah x0 x5) x1).bind fun a => (if a < 0 then (some (-1)) else (Zbi.l0 k x0 a (wrap64 (x5 + 1))))) else (none)) else (some x1)
def Zbi.f (k : Nat) (l0 : List (List Int)) (a1 : Int) : Option (Int) := Zbi.l0 k l0 a1 0
theorem Zbi.calls (k : Nat) (A0 : Option Addr) (c0 : Nat) (l0 : List (List Int)) (a1 : Int) (r : Int) (w : World) (t : Kd.C (Kd.slice 2 (Kd.int .i64)) w A0 l0.length l0) (u : l0.length ≤ c0) (h : Zbi.f k l0 a1 = some r) :
  Calls Try.prog 27 #[.slice A0 l0.length c0, .int .i64 a1] w fun e w' => e = .returned (.int .i64 r) ∧ Zas w w' := by
 have v := mA t
 have B := mA u
 clear t u
 unfold Zbi.f at h
 have H := h
 clear h
 have H' := mA H
 clear H
 go_enter Try.func27, Try.ntmps27
 go_wp2
 go_loopg [1, 5] k (fun kq v1 v5 w' => ∃ (d : Int) (a : Int), v1 = .int .i64 d ∧ v5 = .int .i64 a ∧ Zad (Zbi.l0 kq l0 d a = some r) ∧ Zad (kq ≤ k) ∧ Zas w w')
 case atStart => exact ⟨(a1), (0), (eW), (eW), H', ⟨Nat.le_refl _⟩, by repeat (first | exact Zas.refl _ | apply Zas.step)⟩
 case round =>
  clear H'
  try clear c2
  try clear p2
  obtain ⟨d, a, rfl, rfl, HA, HK1, ⟨m1, rfl⟩⟩ := hrel
  cases gk with
  | zero => exact absurd HA.out (by simp [Zbi.l0])
  | succ k1 =>
   have H := HA.out
   clear HA
   simp only [Zbi.l0] at H
   by_cases c3 : a < (l0.length : Int); rotate_left
   ·rw [if_neg c3] at H
    have y := dF c3
    clear c3
    obtain rfl := oI H
    go_wp2
    go_ret
    exact ⟨eW, by repeat (first | exact Zas.refl _ | apply Zas.step)⟩
   rw [if_pos c3] at H
   have y := dT c3
   clear c3
   by_cases c4 : 0 ≤ a; rotate_left
   ·rw [if_neg c4] at H
    exact absurd H (by simp)
   rw [if_pos c4] at H
   have A := dT c4
   clear c4
   replace H := bE H
   obtain ⟨o, x, H⟩ := H
   have A5 := mA x
   clear x
   by_cases c6 : o < 0
   ·rw [if_pos c6] at H
    have z := dT c6
    clear c6
    obtain rfl := oI H
    have g : 0 ≤ (a : Int) := ofD
    have i : a < (l0.length : Int) := ofD
    obtain ⟨s, m, n, p, q, b, c⟩ := Zca v.out a g i
    cases p
    have j := mA c
    have l := mA b
    clear c b
    replace g := eq_true g
    replace i := eq_true i
    go_wp2_with (first | ((with_reducible refine Zar (f := 66) rfl ?_); refine Za2 (some 17) Try.func66 #[.slice m (Zah l0 a).length n, .int .i64 d] ?_; (with_reducible refine (Zbk.calls k1 _ _ (Zah l0 a) d o _ ?side1 ?side2 A5.out).mono ?_); (case side1 => exact cP j.out); (case side2 => exact l.out); rintro e w' ⟨rfl, ⟨nd, rfl⟩⟩; refine ⟨_, rfl, ?_⟩))
    go_ret
    exact ⟨eW, by repeat (first | exact Zas.refl _ | apply Zas.step)⟩
   rw [if_neg c6] at H
   have z := dF c6
   clear c6
   have H' := mA H
   clear H
   have g : 0 ≤ (a : Int) := ofD
   have i : a < (l0.length : Int) := ofD
   obtain ⟨s, m, n, p, q, b, c⟩ := Zca v.out a g i
   cases p
   have j := mA c
   have l := mA b
   clear c b
   replace g := eq_true g
   replace i := eq_true i
   go_wp2_with (first | ((with_reducible refine Zar (f := 66) rfl ?_); refine Za2 (some 17) Try.func66 #[.slice m (Zah l0 a).length n, .int .i64 d] ?_; (with_reducible refine (Zbk.calls k1 _ _ (Zah l0 a) d o _ ?side1 ?side2 A5.out).mono ?_); (case side1 => exact cP j.out); (case side2 => exact l.out); rintro e w' ⟨rfl, ⟨nd, rfl⟩⟩; refine ⟨_, rfl, ?_⟩))
   go_roundg k1
   case measure => have := HK1.out; omega
   case rel => exact ⟨(o), (wrap64 (a + 1)), (eW), (eW), H', ⟨by have := HK1.out; omega⟩, by repeat (first | exact Zas.refl _ | apply Zas.step)⟩
def Zb6.f (k : Nat) (c : Int) (d : Int) (e : Int) (b : List (List Int)) (a1 : Int) : Option (Int) := (Zbi.f k b a1).bind fun a => (if a < 0 then (some (-1)) else (some a))
theorem Zb6.calls (k : Nat) (g : Int) (i : Int) (j : Int) (c : Option Addr) (d : Nat) (a : List (List Int)) (a1 : Int) (r : Int) (w : World) (m : Kd.C (Kd.slice 2 (Kd.int .i64)) w c a.length a) (n : a.length ≤ d) (h : Zb6.f k g i j a a1 = some r) :
  Calls Try.prog 15 #[.agg #[.int .i64 g, .int .i64 i, .int .i64 j, .slice c a.length d], .int .i64 a1] w fun e w' => e = .returned (.int .i64 r) ∧ Below w.heap.size w w' := by
 have W := Try.underlying26
 have o := mA m
 have p := mA n
 clear m n
 have HB := mA (Below.refl w.heap.size w)
 unfold Zb6.f at h
 have H := h
 clear h
 replace H := bE H
 obtain ⟨l, v, H⟩ := H
 have A3 := mA v
 clear v
 by_cases c4 : l < 0
 ·rw [if_pos c4] at H
  have x := dT c4
  clear c4
  obtain rfl := oI H
  go_enter Try.func15, Try.ntmps15
  go_wp2_with (first | ((with_reducible refine Zap (N := 2) rfl ?_); refine boxS (N := 2) (cs := #[.int .i64 g, .int .i64 i, .int .i64 j, .slice c a.length d]) (t := 26) ?_; intro q hg w5 hbox hb; have b := mA (hbox); have s := geW (w := w) hg; have u := geW (w := w) hg; replace HB := mA (Zaf (bW) hb); clear hb hbox hg; obtain ⟨y, z, A, B⟩ := Zau b.out; obtain ⟨D, E, G, I⟩ := frz4 b.out) | ((with_reducible refine Zar (f := 27) rfl ?_); refine Za2 (some 8) Try.func27 #[.slice c a.length d, .int .i64 a1] ?_; (with_reducible refine (Zbi.calls k _ _ a a1 l _ ?side1 ?side2 A3.out).mono ?_); (case side1 => exact cP (zL o.out HB.out)); (case side2 => exact p.out); rintro e w' ⟨rfl, ⟨nd, rfl⟩⟩; refine ⟨_, rfl, ?_⟩))
  go_ret
  exact ⟨eW, bW⟩
 rw [if_neg c4] at H
 have x := dF c4
 clear c4
 obtain rfl := oI H
 go_enter Try.func15, Try.ntmps15
 go_wp2_with (first | ((with_reducible refine Zap (N := 2) rfl ?_); refine boxS (N := 2) (cs := #[.int .i64 g, .int .i64 i, .int .i64 j, .slice c a.length d]) (t := 26) ?_; intro q hg w7 hbox hb; have b := mA (hbox); have s := geW (w := w) hg; have u := geW (w := w) hg; replace HB := mA (Zaf (bW) hb); clear hb hbox hg; obtain ⟨J, K, L, M⟩ := Zau b.out; obtain ⟨O, P, T, U⟩ := frz4 b.out) | ((with_reducible refine Zar (f := 27) rfl ?_); refine Za2 (some 8) Try.func27 #[.slice c a.length d, .int .i64 a1] ?_; (with_reducible refine (Zbi.calls k _ _ a a1 l _ ?side1 ?side2 A3.out).mono ?_); (case side1 => exact cP (zL o.out HB.out)); (case side2 => exact p.out); rintro e w' ⟨rfl, ⟨nd, rfl⟩⟩; refine ⟨_, rfl, ?_⟩))
 go_ret
 exact ⟨eW, bW⟩
end Go.Proofs.Ytgindgodfcfgkaa.P
end M1
