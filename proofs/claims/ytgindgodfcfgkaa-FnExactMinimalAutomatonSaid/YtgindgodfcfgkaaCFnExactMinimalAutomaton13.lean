import Derived.Test.YtgindgodfcfgkaaCFnExactMinimalAutomaton12
set_option maxHeartbeats 8000000
set_option maxRecDepth 100000
section M0
namespace Go.Proofs.Ytgindgodfcfgkaa.P
open Go.RowKit Go.Proofs.Ytgindgodfcfgkaa.Sh Go.Proofs.YtgindgodfcfgkaaW.PrintWords Go.Proofs.YtgindgodfcfgkaaW.PrintLast Go.Proofs.YtgindgodfcfgkaaW.PrintMore
open Kd
attribute [local go_sem] Zcf Zcc Zcn Zcp Zb5 Zb3 Zcd Zcb   -- for this text's walks alone
set_option linter.unusedVariables false
set_option linter.unusedSimpArgs false
def Za0.l0 : Nat → List Bool → Int → Int → Int → Int → Int → List (List Int) → Option (Int × Int × Int × (List (List Int)) × Int)
 | 0, _, _, _, _, _, _, _ => none
 | k + 1, g, h, e, a, b, c, d => if e < h then (if 0 ≤ e then (if e < (g.length : Int) then (if rdOf false g e = true then ((Zc2.f e).bind fun i => (Za0.l0 k g h (wrap64 (e + 1)) a b (Go.bits .or .i64 c i) d)) else (Za0.l0 k g h (wrap64 (e + 1)) a b c d)) else (none)) else (none)) else (some (a, b, c, d, 0))
def Za0.f (k : Nat) (b : Int) (c : Int) (d : List Bool) (e : List (List Int)) : Option (Int × Int × Int × (List (List Int)) × Int) := (Zaj.f k b c d e).bind fun a => (if (a.2.2.2.length : Int) > 16 then (some (0, 0, 0, ([] : List (List Int)), 3)) else (Za0.l0 k a.2.2.1 (a.2.2.1.length : Int) 0 b a.2.1 0 a.2.2.2))
theorem Za0.calls (k : Nat) (q : Int) (W : Int) (ad : Option Addr) (ae : Nat) (J : List Bool) (af : Option Addr) (ag : Nat) (L : List (List Int)) (r1 : Int) (r2 : Int) (r3 : Int) (r4 : List (List Int)) (r5 : Int) (w : World) (ay : Kd.C Kd.bool w ad J.length J) (az : J.length ≤ ae) (aA : Kd.C (Kd.slice 2 (Kd.int .i64)) w af L.length L) (aB : L.length ≤ ag) (h : Za0.f k q W J L = some (r1, r2, r3, r4, r5)) :
  Calls Try.prog 44 #[.agg #[.int .i64 q, .int .i64 W, .slice ad J.length ae, .slice af L.length ag]] w fun e w' => ∃ b5 : Value, e = .returned (.tuple #[.agg #[.int .i64 r1, .int .i64 r2, .int .i64 r3, b5], .int .i64 r5]) ∧ Kd.S (Kd.slice 2 (Kd.int .i64)) 33 w' w.heap.size (fun _ => True) b5 r4 ∧ Below w.heap.size w w' := by
 have dh := Try.underlying63
 have di := Try.underlying26
 have aC := mA ay
 have aD := mA az
 clear ay az
 have aE := mA aA
 have aF := mA aB
 clear aA aB
 have HB := mA (Below.refl w.heap.size w)
 unfold Za0.f at h
 have H := h
 clear h
 replace H := bE H
 obtain ⟨⟨I, r, v, s⟩, A20, H⟩ := H
 try dsimp only at H
 have A2 := mA A20
 clear A20
 by_cases c3 : (s.length : Int) > 16
 ·rw [if_pos c3] at H
  have bK : decide (16 < (s.length : Int)) = true := dT c3
  have bL : decide (16 < s.length) = true := decide_eq_true (by omega)
  clear c3
  simp only [Option.some.injEq, Prod.mk.injEq] at H
  obtain ⟨rfl, rfl, rfl, rfl, rfl⟩ := H
  go_enter Try.func44, Try.ntmps44
  go_wp2_with (first | ((with_reducible refine Zar (N := 1) rfl ?_); refine boxS (N := 1) (cs := #[.int .i64 q, .int .i64 W, .slice ad J.length ae, .slice af L.length ag]) (t := 63) ?_; intro ah hg w4 hbox hb; have a := mA (hbox); have bX := geW (w := w) hg; have bY := geW (w := w) hg; replace HB := mA (Zaf (bW) hb); clear hb hbox hg) | ((with_reducible refine Zar (N := 2) rfl ?_); refine boxS (N := 2) (cs := #[.int .i64 0, .int .i64 0, .int .i64 0, .slice none 0 0]) (t := 26) ?_; intro x hg w5 hbox hb; have b := mA (hbox); have bZ := geW (w := w) hg; have b0 := geW (w := w) hg; replace HB := mA (Zaf (bW) hb); have aa := mA (neB hg a); have ab := mA (neC hg a); replace a := mA (blkB a.out hb); clear hb hbox hg; have dj := aa.out; have dk := ab.out; obtain ⟨bM, bN, bO, bQ⟩ := Zaz a.out; obtain ⟨bR, bS, bT, bU⟩ := frz4 a.out) | ((with_reducible refine Zat (f := 58) rfl ?_); refine Zbi (some 9) Try.func58 #[.agg #[.int .i64 q, .int .i64 W, .slice ad J.length ae, .slice af L.length ag]] ?_; (with_reducible refine (Zaj.calls k q W _ _ J _ _ L I r v s _ ?side1 ?side2 ?side3 ?side4 A2.out).mono ?_); (case side1 => exact cP (zO aC.out HB.out)); (case side2 => exact aD.out); (case side3 => exact cP (zO aE.out HB.out)); (case side4 => exact aF.out); rintro e w8 ⟨b6, b7, rfl, av, aw, hb⟩; refine ⟨_, rfl, ?_⟩; have O := mA (zU av (Zao (bW))); have P := mA (yM aw (Zao (bW))); replace a := mA (blkB a.out hb); replace b := mA (blkB b.out hb); replace HB := mA (Zaf (bW) hb); (try clear hb); (try clear hb2); (try clear hk); (try clear hi); (try clear av); (try clear aw)) | ((with_reducible refine Zar (N := 4) rfl ?_); refine boxS (N := 4) (cs := #[.int .i64 0, .int .i64 0, .slice none 0 0, .slice none 0 0]) (t := 63) ?_; intro D hg w9 hbox hb; replace O := mA (zM (rP O.out) hb); replace P := mA (zQ (sP P.out) hb); have u := mA (hbox); have b1 := geW (w := w) hg; have b2 := geW (w := w) hg; replace HB := mA (Zaf (bW) hb); have m := mA (neB hg a); have aj := mA (neC hg a); replace a := mA (blkB a.out hb); have c := mA (neB hg b); have ac := mA (neC hg b); replace b := mA (blkB b.out hb); clear hb hbox hg; have cC := aj.out; have cD := m.out; have cE := ac.out; have cF := c.out; obtain ⟨aL, aM, aN, aO⟩ := Zaz u.out; obtain ⟨aP, aQ, aR, aS⟩ := frz4 u.out; obtain ⟨dl, dm, b8⟩ := zN O.out; subst b8; obtain ⟨dn, dp, b9⟩ := yC P.out; subst b9; obtain ⟨aT, aU, aV, aW⟩ := Zaz b.out; obtain ⟨aX, aY, aZ, a0⟩ := frz4 b.out))
  refine bodyPost_ret (Zc7 rfl _ _ x 26 #[.int .i64 0, .int .i64 0, .int .i64 0, .slice none 0 0] (0, 0) _ rfl (by (with_reducible repeat (first | refine Zac ?_ _ | refine Zab ?_ | refine Zaa ?_ _)); refine Zap (cs := #[.int .i64 0, .int .i64 0, .int .i64 0, .slice none 0 0]) ?_ 3 _ rfl; (with_reducible repeat (first | refine Zac ?_ _ | refine Zab ?_ | refine Zaa ?_ _)); refine Zap (cs := #[.int .i64 0, .int .i64 0, .int .i64 0, .slice none 0 0]) ?_ 2 _ rfl; (with_reducible repeat (first | refine Zac ?_ _ | refine Zab ?_ | refine Zaa ?_ _)); refine Zap (cs := #[.int .i64 0, .int .i64 0, .int .i64 0, .slice none 0 0]) ?_ 1 _ rfl; (with_reducible repeat (first | refine Zac ?_ _ | refine Zab ?_ | refine Zaa ?_ _)); refine Zap (cs := #[.int .i64 0, .int .i64 0, .int .i64 0, .slice none 0 0]) ?_ 0 _ rfl; (with_reducible repeat (first | refine Zac ?_ _ | refine Zab ?_ | refine Zaa ?_ _)); refine Zal ?_ c.out _; (with_reducible repeat (first | refine Zac ?_ _ | refine Zab ?_ | refine Zaa ?_ _)); refine Zal ?_ c.out _; (with_reducible repeat (first | refine Zac ?_ _ | refine Zab ?_ | refine Zaa ?_ _)); refine Zal ?_ c.out _; (with_reducible repeat (first | refine Zac ?_ _ | refine Zab ?_ | refine Zaa ?_ _)); refine Zal ?_ c.out _; exact bP b.out) Try.underlying26 rfl (by kernel_rfl)) rfl ?_
  exact ⟨_, eW, by first | exact xA _ _ _ _ _ | exact xD _ _ _ _ _ | exact xE _ _ _ _ _ | exact yZ _ _ _ _ _ | exact yN _ _ _ _ _, bW⟩
 rw [if_neg c3] at H
 have bK : decide (16 < (s.length : Int)) = false := dF c3
 have bL : decide (16 < s.length) = false := decide_eq_false (by omega)
 clear c3
 have H' := mA H
 clear H
 go_enter Try.func44, Try.ntmps44
 go_wp2_with (first | ((with_reducible refine Zar (N := 1) rfl ?_); refine boxS (N := 1) (cs := #[.int .i64 q, .int .i64 W, .slice ad J.length ae, .slice af L.length ag]) (t := 63) ?_; intro ah hg dr hbox hb; have a := mA (hbox); have bX := geW (w := w) hg; have bY := geW (w := w) hg; replace HB := mA (Zaf (bW) hb); clear hb hbox hg) | ((with_reducible refine Zar (N := 2) rfl ?_); refine boxS (N := 2) (cs := #[.int .i64 0, .int .i64 0, .int .i64 0, .slice none 0 0]) (t := 26) ?_; intro x hg dt hbox hb; have b := mA (hbox); have bZ := geW (w := w) hg; have b0 := geW (w := w) hg; replace HB := mA (Zaf (bW) hb); have aa := mA (neB hg a); have ab := mA (neC hg a); replace a := mA (blkB a.out hb); clear hb hbox hg; have cG := aa.out; have cH := ab.out; obtain ⟨a1, a2, a3, a4⟩ := Zaz a.out; obtain ⟨a5, a6, a7, a8⟩ := frz4 a.out) | ((with_reducible refine Zat (f := 58) rfl ?_); refine Zbi (some 9) Try.func58 #[.agg #[.int .i64 q, .int .i64 W, .slice ad J.length ae, .slice af L.length ag]] ?_; (with_reducible refine (Zaj.calls k q W _ _ J _ _ L I r v s _ ?side1 ?side2 ?side3 ?side4 A2.out).mono ?_); (case side1 => exact cP (zO aC.out HB.out)); (case side2 => exact aD.out); (case side3 => exact cP (zO aE.out HB.out)); (case side4 => exact aF.out); rintro e du ⟨b6, b7, rfl, av, aw, hb⟩; refine ⟨_, rfl, ?_⟩; have O := mA (zU av (Zao (bW))); have P := mA (yM aw (Zao (bW))); replace a := mA (blkB a.out hb); replace b := mA (blkB b.out hb); replace HB := mA (Zaf (bW) hb); (try clear hb); (try clear hb2); (try clear hk); (try clear hi); (try clear av); (try clear aw)) | ((with_reducible refine Zar (N := 4) rfl ?_); refine boxS (N := 4) (cs := #[.int .i64 0, .int .i64 0, .slice none 0 0, .slice none 0 0]) (t := 63) ?_; intro D hg dv hbox hb; replace O := mA (zM (rP O.out) hb); replace P := mA (zQ (sP P.out) hb); have u := mA (hbox); have b1 := geW (w := w) hg; have b2 := geW (w := w) hg; replace HB := mA (Zaf (bW) hb); have m := mA (neB hg a); have aj := mA (neC hg a); replace a := mA (blkB a.out hb); have c := mA (neB hg b); have ac := mA (neC hg b); replace b := mA (blkB b.out hb); clear hb hbox hg; have cI := aj.out; have cJ := m.out; have cK := ac.out; have cL := c.out; obtain ⟨a9, ba, bb, bd⟩ := Zaz u.out; obtain ⟨bf, bg, bh, bi⟩ := frz4 u.out; obtain ⟨X, Y, ca⟩ := zN O.out; subst ca; obtain ⟨E, G, cb⟩ := yC P.out; subst cb; obtain ⟨bj, bk, bl, bm⟩ := Zaz a.out; obtain ⟨bn, bo, bp, bq⟩ := frz4 a.out) | ((with_reducible refine Zar (N := 5) rfl ?_); refine boxS (N := 5) (cs := #[.int .i64 0, .int .i64 0, .int .i64 0, .slice none 0 0]) (t := 26) ?_; intro d hg dw hbox hb; replace O := mA (zM (by (with_reducible repeat (first | apply zD | apply zE | apply zB)); exact (zC (zS (p := ⟨D, 3, none⟩) (zS (p := ⟨D, 2, none⟩) (zS (p := ⟨D, 1, none⟩) (zS (p := ⟨D, 0, none⟩) (yD O.out u.out (by decide)) (fun _ hk => hk.2) (.int .i64 I)) (fun _ hk => hk.2) (.int .i64 r)) (fun _ hk => hk.2) (.slice X v.length Y)) (fun _ hk => hk.2) (.slice E s.length G)) (fun _ h_ => h_.1))) hb); replace P := mA (zQ (by (with_reducible repeat (first | apply zH | apply zI | apply zF)); exact (zG (zA (p := ⟨D, 3, none⟩) (zA (p := ⟨D, 2, none⟩) (zA (p := ⟨D, 1, none⟩) (zA (p := ⟨D, 0, none⟩) (zR P.out u.out (by decide)) (fun _ hk => hk.2) (.int .i64 I)) (fun _ hk => hk.2) (.int .i64 r)) (fun _ hk => hk.2) (.slice X v.length Y)) (fun _ hk => hk.2) (.slice E s.length G)) (fun _ h_ => h_.1))) hb); have j := mA (hbox); have cM := geW (w := w) hg; have cN := geW (w := w) hg; replace HB := mA (Zaf (bW) hb); have z := mA ((by rw [hg]; exact Nat.ne_of_lt (blk_lt (g := ah) (o := .cells #[.int .i64 q, .int .i64 W, .slice ad J.length ae, .slice af L.length ag] 63 (0, 0)) (by (with_reducible repeat (first | refine Zac ?_ _ | refine Zab ?_ | refine Zaa ?_ _)); refine Zal ?_ m.out _; (with_reducible repeat (first | refine Zac ?_ _ | refine Zab ?_ | refine Zaa ?_ _)); refine Zal ?_ m.out _; (with_reducible repeat (first | refine Zac ?_ _ | refine Zab ?_ | refine Zaa ?_ _)); refine Zal ?_ m.out _; (with_reducible repeat (first | refine Zac ?_ _ | refine Zab ?_ | refine Zaa ?_ _)); refine Zal ?_ m.out _; exact bP a.out)) : ah ≠ d)); have ak := mA ((by rw [hg]; exact Nat.ne_of_gt (blk_lt (g := ah) (o := .cells #[.int .i64 q, .int .i64 W, .slice ad J.length ae, .slice af L.length ag] 63 (0, 0)) (by (with_reducible repeat (first | refine Zac ?_ _ | refine Zab ?_ | refine Zaa ?_ _)); refine Zal ?_ m.out _; (with_reducible repeat (first | refine Zac ?_ _ | refine Zab ?_ | refine Zaa ?_ _)); refine Zal ?_ m.out _; (with_reducible repeat (first | refine Zac ?_ _ | refine Zab ?_ | refine Zaa ?_ _)); refine Zal ?_ m.out _; (with_reducible repeat (first | refine Zac ?_ _ | refine Zab ?_ | refine Zaa ?_ _)); refine Zal ?_ m.out _; exact bP a.out)) : d ≠ ah)); replace a := mA (Zbc (g := ah) (o := .cells #[.int .i64 q, .int .i64 W, .slice ad J.length ae, .slice af L.length ag] 63 (0, 0)) (by (with_reducible repeat (first | refine Zac ?_ _ | refine Zab ?_ | refine Zaa ?_ _)); refine Zal ?_ m.out _; (with_reducible repeat (first | refine Zac ?_ _ | refine Zab ?_ | refine Zaa ?_ _)); refine Zal ?_ m.out _; (with_reducible repeat (first | refine Zac ?_ _ | refine Zab ?_ | refine Zaa ?_ _)); refine Zal ?_ m.out _; (with_reducible repeat (first | refine Zac ?_ _ | refine Zab ?_ | refine Zaa ?_ _)); refine Zal ?_ m.out _; exact bP a.out) hb); have A := mA ((by rw [hg]; exact Nat.ne_of_lt (blk_lt (g := x) (o := .cells #[.int .i64 0, .int .i64 0, .int .i64 0, .slice none 0 0] 26 (0, 0)) (by (with_reducible repeat (first | refine Zac ?_ _ | refine Zab ?_ | refine Zaa ?_ _)); refine Zal ?_ c.out _; (with_reducible repeat (first | refine Zac ?_ _ | refine Zab ?_ | refine Zaa ?_ _)); refine Zal ?_ c.out _; (with_reducible repeat (first | refine Zac ?_ _ | refine Zab ?_ | refine Zaa ?_ _)); refine Zal ?_ c.out _; (with_reducible repeat (first | refine Zac ?_ _ | refine Zab ?_ | refine Zaa ?_ _)); refine Zal ?_ c.out _; exact bP b.out)) : x ≠ d)); have al := mA ((by rw [hg]; exact Nat.ne_of_gt (blk_lt (g := x) (o := .cells #[.int .i64 0, .int .i64 0, .int .i64 0, .slice none 0 0] 26 (0, 0)) (by (with_reducible repeat (first | refine Zac ?_ _ | refine Zab ?_ | refine Zaa ?_ _)); refine Zal ?_ c.out _; (with_reducible repeat (first | refine Zac ?_ _ | refine Zab ?_ | refine Zaa ?_ _)); refine Zal ?_ c.out _; (with_reducible repeat (first | refine Zac ?_ _ | refine Zab ?_ | refine Zaa ?_ _)); refine Zal ?_ c.out _; (with_reducible repeat (first | refine Zac ?_ _ | refine Zab ?_ | refine Zaa ?_ _)); refine Zal ?_ c.out _; exact bP b.out)) : d ≠ x)); replace b := mA (Zbc (g := x) (o := .cells #[.int .i64 0, .int .i64 0, .int .i64 0, .slice none 0 0] 26 (0, 0)) (by (with_reducible repeat (first | refine Zac ?_ _ | refine Zab ?_ | refine Zaa ?_ _)); refine Zal ?_ c.out _; (with_reducible repeat (first | refine Zac ?_ _ | refine Zab ?_ | refine Zaa ?_ _)); refine Zal ?_ c.out _; (with_reducible repeat (first | refine Zac ?_ _ | refine Zab ?_ | refine Zaa ?_ _)); refine Zal ?_ c.out _; (with_reducible repeat (first | refine Zac ?_ _ | refine Zab ?_ | refine Zaa ?_ _)); refine Zal ?_ c.out _; exact bP b.out) hb); have B := mA ((by rw [hg]; exact Nat.ne_of_lt (blk_lt (g := D) (o := .cells #[.int .i64 I, .int .i64 r, .slice X v.length Y, .slice E s.length G] 63 (0, 0)) (by (with_reducible repeat (first | refine Zac ?_ _ | refine Zab ?_ | refine Zaa ?_ _)); refine Zap (cs := #[.int .i64 I, .int .i64 r, .slice X v.length Y, .slice none 0 0]) ?_ 3 _ rfl; (with_reducible repeat (first | refine Zac ?_ _ | refine Zab ?_ | refine Zaa ?_ _)); refine Zap (cs := #[.int .i64 I, .int .i64 r, .slice none 0 0, .slice none 0 0]) ?_ 2 _ rfl; (with_reducible repeat (first | refine Zac ?_ _ | refine Zab ?_ | refine Zaa ?_ _)); refine Zap (cs := #[.int .i64 I, .int .i64 0, .slice none 0 0, .slice none 0 0]) ?_ 1 _ rfl; (with_reducible repeat (first | refine Zac ?_ _ | refine Zab ?_ | refine Zaa ?_ _)); refine Zap (cs := #[.int .i64 0, .int .i64 0, .slice none 0 0, .slice none 0 0]) ?_ 0 _ rfl; exact bP u.out)) : D ≠ d)); have am := mA ((by rw [hg]; exact Nat.ne_of_gt (blk_lt (g := D) (o := .cells #[.int .i64 I, .int .i64 r, .slice X v.length Y, .slice E s.length G] 63 (0, 0)) (by (with_reducible repeat (first | refine Zac ?_ _ | refine Zab ?_ | refine Zaa ?_ _)); refine Zap (cs := #[.int .i64 I, .int .i64 r, .slice X v.length Y, .slice none 0 0]) ?_ 3 _ rfl; (with_reducible repeat (first | refine Zac ?_ _ | refine Zab ?_ | refine Zaa ?_ _)); refine Zap (cs := #[.int .i64 I, .int .i64 r, .slice none 0 0, .slice none 0 0]) ?_ 2 _ rfl; (with_reducible repeat (first | refine Zac ?_ _ | refine Zab ?_ | refine Zaa ?_ _)); refine Zap (cs := #[.int .i64 I, .int .i64 0, .slice none 0 0, .slice none 0 0]) ?_ 1 _ rfl; (with_reducible repeat (first | refine Zac ?_ _ | refine Zab ?_ | refine Zaa ?_ _)); refine Zap (cs := #[.int .i64 0, .int .i64 0, .slice none 0 0, .slice none 0 0]) ?_ 0 _ rfl; exact bP u.out)) : d ≠ D)); replace u := mA (Zbc (g := D) (o := .cells #[.int .i64 I, .int .i64 r, .slice X v.length Y, .slice E s.length G] 63 (0, 0)) (by (with_reducible repeat (first | refine Zac ?_ _ | refine Zab ?_ | refine Zaa ?_ _)); refine Zap (cs := #[.int .i64 I, .int .i64 r, .slice X v.length Y, .slice none 0 0]) ?_ 3 _ rfl; (with_reducible repeat (first | refine Zac ?_ _ | refine Zab ?_ | refine Zaa ?_ _)); refine Zap (cs := #[.int .i64 I, .int .i64 r, .slice none 0 0, .slice none 0 0]) ?_ 2 _ rfl; (with_reducible repeat (first | refine Zac ?_ _ | refine Zab ?_ | refine Zaa ?_ _)); refine Zap (cs := #[.int .i64 I, .int .i64 0, .slice none 0 0, .slice none 0 0]) ?_ 1 _ rfl; (with_reducible repeat (first | refine Zac ?_ _ | refine Zab ?_ | refine Zaa ?_ _)); refine Zap (cs := #[.int .i64 0, .int .i64 0, .slice none 0 0, .slice none 0 0]) ?_ 0 _ rfl; exact bP u.out) hb); clear hb hbox hg; have cO := ak.out; have cQ := z.out; have cR := al.out; have cS := A.out; have cT := am.out; have cU := B.out; obtain ⟨br, bs, bu, bv⟩ := Zaz j.out; obtain ⟨bw, bx, bz, bA⟩ := frz4 j.out; obtain ⟨bB, bC, bD, bF⟩ := Zaz u.out; obtain ⟨bG, bH, bI, bJ⟩ := frz4 u.out))
 go_loopg [25] k (fun kq v25 w' => ∃ (y : Int) (l : Int), v25 = .int .i64 y ∧ Zad (Za0.l0 kq v (v.length : Int) y q r l s = some (r1, r2, r3, r4, r5)) ∧ Zad (kq ≤ k) ∧ Zad (Kd.R Kd.bool 4 w' w.heap.size (fun _ => True) (.slice X v.length Y) v) ∧ Zad (Kd.R Kd.bool 4 w' w.heap.size (fun _ => True) (.slice X v.length Y) v) ∧ Zad (Kd.S (Kd.slice 2 (Kd.int .i64)) 33 w' w.heap.size (fun _ => True) (.slice E s.length G) s) ∧ Zad (Kd.S (Kd.slice 2 (Kd.int .i64)) 33 w' w.heap.size (fun _ => True) (.slice E s.length G) s) ∧ Zad (w'.heap[ah]? = some (.cells #[.int .i64 q, .int .i64 W, (.slice ad J.length ae), (.slice af L.length ag)] 63 (0, 0))) ∧ Zad (w'.heap[x]? = some (.cells #[.int .i64 0, .int .i64 0, .int .i64 0, (.slice none 0 0)] 26 (0, 0))) ∧ Zad (w'.heap[D]? = some (.cells #[.int .i64 I, .int .i64 r, (.slice X v.length Y), (.slice E s.length G)] 63 (0, 0))) ∧ Zad (w'.heap[d]? = some (.cells #[.int .i64 q, .int .i64 r, .int .i64 l, (.slice E s.length G)] 26 (0, 0))) ∧ Zad (Below w.heap.size w w'))
 case atStart => exact ⟨(0), (0), (eW), H', ⟨Nat.le_refl _⟩, ⟨by (with_reducible repeat (first | apply zD | apply zE | apply zB)); exact zC (zS (p := ⟨d, 3, none⟩) (zS (p := ⟨d, 2, none⟩) (zS (p := ⟨d, 1, none⟩) (zS (p := ⟨d, 0, none⟩) (yD O.out j.out (by decide)) (fun _ hk => hk.2) (.int .i64 q)) (fun _ hk => hk.2) (.int .i64 r)) (fun _ hk => hk.2) (.int .i64 0)) (fun _ hk => hk.2) (.slice E s.length G)) (fun _ hk => trivial)⟩, ⟨by (with_reducible repeat (first | apply zD | apply zE | apply zB)); exact zC (zS (p := ⟨d, 3, none⟩) (zS (p := ⟨d, 2, none⟩) (zS (p := ⟨d, 1, none⟩) (zS (p := ⟨d, 0, none⟩) (yD O.out j.out (by decide)) (fun _ hk => hk.2) (.int .i64 q)) (fun _ hk => hk.2) (.int .i64 r)) (fun _ hk => hk.2) (.int .i64 0)) (fun _ hk => hk.2) (.slice E s.length G)) (fun _ hk => trivial)⟩, ⟨by (with_reducible repeat (first | apply zH | apply zI | apply zF)); exact zG (zA (p := ⟨d, 3, none⟩) (zA (p := ⟨d, 2, none⟩) (zA (p := ⟨d, 1, none⟩) (zA (p := ⟨d, 0, none⟩) (zR P.out j.out (by decide)) (fun _ hk => hk.2) (.int .i64 q)) (fun _ hk => hk.2) (.int .i64 r)) (fun _ hk => hk.2) (.int .i64 0)) (fun _ hk => hk.2) (.slice E s.length G)) (fun _ hk => trivial)⟩, ⟨by (with_reducible repeat (first | apply zH | apply zI | apply zF)); exact zG (zA (p := ⟨d, 3, none⟩) (zA (p := ⟨d, 2, none⟩) (zA (p := ⟨d, 1, none⟩) (zA (p := ⟨d, 0, none⟩) (zR P.out j.out (by decide)) (fun _ hk => hk.2) (.int .i64 q)) (fun _ hk => hk.2) (.int .i64 r)) (fun _ hk => hk.2) (.int .i64 0)) (fun _ hk => hk.2) (.slice E s.length G)) (fun _ hk => trivial)⟩, ⟨by (with_reducible repeat (first | refine Zac ?_ _ | refine Zab ?_ | refine Zaa ?_ _)); refine Zal ?_ z.out _; (with_reducible repeat (first | refine Zac ?_ _ | refine Zab ?_ | refine Zaa ?_ _)); refine Zal ?_ z.out _; (with_reducible repeat (first | refine Zac ?_ _ | refine Zab ?_ | refine Zaa ?_ _)); refine Zal ?_ z.out _; (with_reducible repeat (first | refine Zac ?_ _ | refine Zab ?_ | refine Zaa ?_ _)); refine Zal ?_ z.out _; exact bP a.out⟩, ⟨by (with_reducible repeat (first | refine Zac ?_ _ | refine Zab ?_ | refine Zaa ?_ _)); refine Zal ?_ A.out _; (with_reducible repeat (first | refine Zac ?_ _ | refine Zab ?_ | refine Zaa ?_ _)); refine Zal ?_ A.out _; (with_reducible repeat (first | refine Zac ?_ _ | refine Zab ?_ | refine Zaa ?_ _)); refine Zal ?_ A.out _; (with_reducible repeat (first | refine Zac ?_ _ | refine Zab ?_ | refine Zaa ?_ _)); refine Zal ?_ A.out _; exact bP b.out⟩, ⟨by (with_reducible repeat (first | refine Zac ?_ _ | refine Zab ?_ | refine Zaa ?_ _)); refine Zal ?_ B.out _; (with_reducible repeat (first | refine Zac ?_ _ | refine Zab ?_ | refine Zaa ?_ _)); refine Zal ?_ B.out _; (with_reducible repeat (first | refine Zac ?_ _ | refine Zab ?_ | refine Zaa ?_ _)); refine Zal ?_ B.out _; (with_reducible repeat (first | refine Zac ?_ _ | refine Zab ?_ | refine Zaa ?_ _)); refine Zal ?_ B.out _; exact bP u.out⟩, ⟨by (with_reducible repeat (first | refine Zac ?_ _ | refine Zab ?_ | refine Zaa ?_ _)); refine Zap (cs := #[.int .i64 q, .int .i64 r, .int .i64 0, .slice none 0 0]) ?_ 3 _ rfl; (with_reducible repeat (first | refine Zac ?_ _ | refine Zab ?_ | refine Zaa ?_ _)); refine Zap (cs := #[.int .i64 q, .int .i64 r, .int .i64 0, .slice none 0 0]) ?_ 2 _ rfl; (with_reducible repeat (first | refine Zac ?_ _ | refine Zab ?_ | refine Zaa ?_ _)); refine Zap (cs := #[.int .i64 q, .int .i64 0, .int .i64 0, .slice none 0 0]) ?_ 1 _ rfl; (with_reducible repeat (first | refine Zac ?_ _ | refine Zab ?_ | refine Zaa ?_ _)); refine Zap (cs := #[.int .i64 0, .int .i64 0, .int .i64 0, .slice none 0 0]) ?_ 0 _ rfl; exact bP j.out⟩, ⟨bW⟩⟩
 case round =>
  clear H'
  try clear c1
  try clear c2
  try clear p2
  try clear c3
  try clear bK
  try clear bL
  try clear c4
  try clear c5
  try clear c6
  try clear c10
  try clear c11
  try clear c18
  try clear c22
  try clear c23
  try clear c29
  try clear c30
  try clear c31
  try clear aL
  try clear aM
  try clear aN
  try clear aO
  try clear aT
  try clear aU
  try clear aV
  try clear aW
  try clear a1
  try clear a2
  try clear a3
  try clear a4
  try clear a9
  try clear ba
  try clear bb
  try clear bd
  try clear bj
  try clear bk
  try clear bl
  try clear bm
  try clear br
  try clear bs
  try clear bu
  try clear bv
  try clear bB
  try clear bC
  try clear bD
  try clear bF
  try clear bM
  try clear bN
  try clear bO
  try clear bQ
  try clear aP
  try clear aQ
  try clear aR
  try clear aS
  try clear aX
  try clear aY
  try clear aZ
  try clear a0
  try clear a5
  try clear a6
  try clear a7
  try clear a8
  try clear bf
  try clear bg
  try clear bh
  try clear bi
  try clear bn
  try clear bo
  try clear bp
  try clear bq
  try clear bw
  try clear bx
  try clear bz
  try clear bA
  try clear bG
  try clear bH
  try clear bI
  try clear bJ
  try clear bR
  try clear bS
  try clear bT
  try clear bU
  obtain ⟨y, l, rfl, HA, aG, ai, T, U, M, a, b, u, j, HB⟩ := hrel
  cases gk with
  | zero => exact absurd HA.out (by simp [Za0.l0])
  | succ k1 =>
   have H := HA.out
   clear HA
   simp only [Za0.l0] at H
   by_cases ar : y < (v.length : Int); rotate_left
   ·rw [if_neg ar] at H
    have b3 := dF ar
    clear ar
    simp only [Option.some.injEq, Prod.mk.injEq] at H
    obtain ⟨rfl, rfl, rfl, rfl, rfl⟩ := H
    have cV := ak.out
    have cW := z.out
    have cX := al.out
    have cY := A.out
    have cZ := am.out
    have c0 := B.out
    have cd : wr.cell? ⟨d, 0, none⟩ = some (.int .i64 q) := bc j 0
    have ce : wr.cell? ⟨d, 1, none⟩ = some (.int .i64 r) := bc j 1
    have cf : wr.cell? ⟨d, 2, none⟩ = some (.int .i64 l) := bc j 2
    have cg : wr.cell? ⟨d, 3, none⟩ = some (.slice E s.length G) := bc j 3
    have ch := Zae j.out 0
    have ci := Zae j.out 1
    have cj := Zae j.out 2
    have ck := Zae j.out 3
    have da := ab.out
    have db := aa.out
    have dc := c.out
    have dd := ac.out
    have cm : wr.cell? ⟨x, 0, none⟩ = some (.int .i64 0) := bc b 0
    have cn : wr.cell? ⟨x, 1, none⟩ = some (.int .i64 0) := bc b 1
    have co : wr.cell? ⟨x, 2, none⟩ = some (.int .i64 0) := bc b 2
    have cp : wr.cell? ⟨x, 3, none⟩ = some (.slice none 0 0) := bc b 3
    have cq := Zae b.out 0
    have cr := Zae b.out 1
    have ct := Zae b.out 2
    have cu := Zae b.out 3
    go_wp2
    refine bodyPost_ret (Zc7 rfl _ _ x 26 #[.int .i64 q, .int .i64 r, .int .i64 l, .slice E s.length G] (0, 0) _ rfl (by (with_reducible repeat (first | refine Zac ?_ _ | refine Zab ?_ | refine Zaa ?_ _)); refine Zap (cs := #[.int .i64 q, .int .i64 r, .int .i64 l, .slice none 0 0]) ?_ 3 _ rfl; (with_reducible repeat (first | refine Zac ?_ _ | refine Zab ?_ | refine Zaa ?_ _)); refine Zap (cs := #[.int .i64 q, .int .i64 r, .int .i64 0, .slice none 0 0]) ?_ 2 _ rfl; (with_reducible repeat (first | refine Zac ?_ _ | refine Zab ?_ | refine Zaa ?_ _)); refine Zap (cs := #[.int .i64 q, .int .i64 0, .int .i64 0, .slice none 0 0]) ?_ 1 _ rfl; (with_reducible repeat (first | refine Zac ?_ _ | refine Zab ?_ | refine Zaa ?_ _)); refine Zap (cs := #[.int .i64 0, .int .i64 0, .int .i64 0, .slice none 0 0]) ?_ 0 _ rfl; exact bP b.out) Try.underlying26 rfl (by kernel_rfl)) rfl ?_
    exact ⟨_, eW, by (with_reducible repeat (first | apply zH | apply zI | apply zF)); exact zG (zA (p := ⟨x, 3, none⟩) (zA (p := ⟨x, 2, none⟩) (zA (p := ⟨x, 1, none⟩) (zA (p := ⟨x, 0, none⟩) (zR M.out b.out (by decide)) (fun _ hk => hk.2) (.int .i64 q)) (fun _ hk => hk.2) (.int .i64 r)) (fun _ hk => hk.2) (.int .i64 l)) (fun _ hk => hk.2) (.slice E s.length G)) (fun _ hk => trivial), bW⟩
   rw [if_pos ar] at H
   have b3 := dT ar
   clear ar
   by_cases aH : 0 ≤ y; rotate_left
   ·rw [if_neg aH] at H
    exact absurd H (by simp)
   rw [if_pos aH] at H
   have de := dT aH
   clear aH
   by_cases aI : y < (v.length : Int); rotate_left
   ·rw [if_neg aI] at H
    exact absurd H (by simp)
   rw [if_pos aI] at H
   have df := dT aI
   clear aI
   obtain ⟨cc, au⟩ : ∃ b_ : Bool, b_ = (rdOf false v y) := ⟨_, rfl⟩
   rw [← au] at H
   have aJ := mA au
   clear au
   by_cases aK : cc = true; rotate_left
   ·replace aK := Bool.eq_false_iff.mpr aK
    subst aK
    rw [iF] at H
    have H' := mA H
    clear H
    have an : 0 ≤ (y : Int) := ofD
    have ao : y < (v.length : Int) := ofD
    obtain ⟨b4, ax, ap⟩ := yA (zJ ai.out).2.2 y an ao
    (try rw [← aJ.out] at ap)
    cases ax
    replace an := eq_true an
    replace ao := eq_true ao
    go_wp2
    go_roundg k1
    case measure => have := aG.out; omega
    case rel => exact ⟨(wrap64 (y + 1)), (l), (eW), H', ⟨by have := aG.out; omega⟩, ⟨rP ai.out⟩, ⟨rP T.out⟩, ⟨sP U.out⟩, ⟨sP M.out⟩, ⟨bP a.out⟩, ⟨bP b.out⟩, ⟨bP u.out⟩, ⟨bP j.out⟩, ⟨bW⟩⟩
   subst aK
   rw [if_pos rfl] at H
   replace H := bE H
   obtain ⟨aq, bV, H⟩ := H
   have cB := mA bV
   clear bV
   have H' := mA H
   clear H
   have an : 0 ≤ (y : Int) := ofD
   have ao : y < (v.length : Int) := ofD
   obtain ⟨b4, ax, ap⟩ := yA (zJ ai.out).2.2 y an ao
   (try rw [← aJ.out] at ap)
   cases ax
   replace an := eq_true an
   replace ao := eq_true ao
   try go_wp2
   replace ai := mA (zB ai.out)
   replace T := mA (zB T.out)
   replace U := mA (zF U.out)
   replace M := mA (zF M.out)
   replace a := mA (Zab a.out)
   replace b := mA (Zab b.out)
   replace u := mA (Zab u.out)
   replace j := mA (Zab j.out)
   replace HB := mA (Za1 HB.out)
   refine start_ (n := 7) (S := fun w' => w'.cell? ⟨d, 0, none⟩ = some (.int .i64 q) ∧ w'.cell? ⟨d, 1, none⟩ = some (.int .i64 r) ∧ w'.cell? ⟨d, 2, none⟩ = some (.int .i64 l) ∧ w'.cell? ⟨d, 3, none⟩ = some (.slice E s.length G)) (ds := [6]) #[false, false, false, false, false, false, false] (by kernel_rfl) rfl rfl ⟨bc j 0, bc j 1, bc j 2, bc j 3⟩ (fun hHeld => ?_)
   generalize wr.drew = w40 at ai T U M a b u j HB hHeld ⊢
   refine Zau (i := 0) (N := some 31) (by kernel_rfl) ?_
   refine Zau (i := 2) (N := some 33) (by kernel_rfl) ?_
   refine Zbr (i := 1) (N := some 32) (by kernel_rfl) hHeld ?_
   refine one_ (i := 3) (N := some 34) #[true, true, true, true, false, false, false] rfl rfl (by kernel_rfl) (by decide) (fun K hK => ?_)
   refine goes_ Try.func71 (by kernel_rfl) rfl #[.int .i64 y] (by rfl) rfl rfl (by (try simp only [List.map_toArray, List.map_cons, List.map_nil]); first | done | rfl | (simp only [List.length_drop, List.length_take]; rfl)) ?_
   with_reducible refine (Zc2.calls y aq _ cB.out).mono ?_
   rintro e w' ⟨rfl, ⟨nd, rfl⟩⟩
   refine ⟨_, rfl, ?_⟩
   refine hK.out _ _ ⟨bc j 0, bc j 1, bc j 2, bc j 3⟩ (fun hHeld => ?_)
   clear hK K
   refine putS 34 ?_
   refine Zau (i := 4) (N := some 35) (by kernel_rfl) ?_
   refine Zau (i := 5) (N := some 36) (by kernel_rfl) ?_
   refine last_ (i := 6) (N := none) #[true, true, true, true, true, true, true] rfl rfl (by kernel_rfl) (by decide) (fun K hK => ?_)
   have dq : w40.cell? ⟨d, 2, none⟩ = some (.int .i64 l) := bc j 2
   have dg := Zae j.out 2
   have cv := z.out
   have cw := A.out
   have cx := B.out
   have cy := ak.out
   have cz := al.out
   have cA := am.out
   refine skip_ (w1 := ?_) (by rfl) rfl ?_ ?_
   rotate_left
   ·go_simp
    rfl
   refine hK.out _ _ ?_
   clear hK K
   refine done_ (by kernel_rfl) ?_
   try go_wp2
   go_roundg k1
   case measure => have := aG.out; omega
   case rel => exact ⟨(wrap64 (y + 1)), (Go.bits .or .i64 l aq), (eW), H', ⟨by have := aG.out; omega⟩, ⟨by (with_reducible repeat (first | apply zD | apply zE | apply zB)); exact zC (zS (p := ⟨d, 2, none⟩) (yD ai.out j.out (by decide)) (fun _ hk => hk.2) (.int .i64 (Go.bits .or .i64 l aq))) (fun _ hk => trivial)⟩, ⟨by (with_reducible repeat (first | apply zD | apply zE | apply zB)); exact zC (zS (p := ⟨d, 2, none⟩) (yD T.out j.out (by decide)) (fun _ hk => hk.2) (.int .i64 (Go.bits .or .i64 l aq))) (fun _ hk => trivial)⟩, ⟨by (with_reducible repeat (first | apply zH | apply zI | apply zF)); exact zG (zA (p := ⟨d, 2, none⟩) (zR U.out j.out (by decide)) (fun _ hk => hk.2) (.int .i64 (Go.bits .or .i64 l aq))) (fun _ hk => trivial)⟩, ⟨by (with_reducible repeat (first | apply zH | apply zI | apply zF)); exact zG (zA (p := ⟨d, 2, none⟩) (zR M.out j.out (by decide)) (fun _ hk => hk.2) (.int .i64 (Go.bits .or .i64 l aq))) (fun _ hk => trivial)⟩, ⟨by (with_reducible repeat (first | refine Zac ?_ _ | refine Zab ?_ | refine Zaa ?_ _)); refine Zal ?_ z.out _; exact bP a.out⟩, ⟨by (with_reducible repeat (first | refine Zac ?_ _ | refine Zab ?_ | refine Zaa ?_ _)); refine Zal ?_ A.out _; exact bP b.out⟩, ⟨by (with_reducible repeat (first | refine Zac ?_ _ | refine Zab ?_ | refine Zaa ?_ _)); refine Zal ?_ B.out _; exact bP u.out⟩, ⟨by (with_reducible repeat (first | refine Zac ?_ _ | refine Zab ?_ | refine Zaa ?_ _)); refine Zap (cs := #[.int .i64 q, .int .i64 r, .int .i64 l, .slice E s.length G]) ?_ 2 _ rfl; exact bP j.out⟩, ⟨bW⟩⟩
def Zbt.f (k : Nat) (c : Int) (d : Int) (e : Int) (g : List (List Int)) : Option (Int × Int × Int × (List (List Int)) × Int) := (Zcr.f c d e g).bind fun h => (if h = true then ((Za4.f k c d e g).bind fun b => ((Za0.f k b.1 b.2.1 b.2.2.1 b.2.2.2).bind fun a => (some (a.1, a.2.1, a.2.2.1, a.2.2.2.1, a.2.2.2.2)))) else (some (0, 0, 0, ([] : List (List Int)), 1)))
theorem Zbt.calls (k : Nat) (i : Int) (j : Int) (l : Int) (m : Option Addr) (n : Nat) (c : List (List Int)) (r1 : Int) (r2 : Int) (r3 : Int) (r4 : List (List Int)) (r5 : Int) (w : World) (L : Kd.C (Kd.slice 2 (Kd.int .i64)) w m c.length c) (M : c.length ≤ n) (h : Zbt.f k i j l c = some (r1, r2, r3, r4, r5)) :
  Calls Try.prog 12 #[.agg #[.int .i64 i, .int .i64 j, .int .i64 l, .slice m c.length n]] w fun e w' => ∃ aa : Value, e = .returned (.tuple #[.agg #[.int .i64 r1, .int .i64 r2, .int .i64 r3, aa], .int .i64 r5]) ∧ Kd.S (Kd.slice 2 (Kd.int .i64)) 33 w' w.heap.size (fun _ => True) aa r4 ∧ Below w.heap.size w w' := by
 have a5 := Try.underlying26
 have z := mA L
 have A := mA M
 clear L M
 have HB := mA (Below.refl w.heap.size w)
 unfold Zbt.f at h
 have H := h
 clear h
 replace H := bE H
 obtain ⟨ad, ab, H⟩ := H
 have A2 := mA ab
 clear ab
 by_cases c3 : ad = true; rotate_left
 ·replace c3 := Bool.eq_false_iff.mpr c3
  subst c3
  rw [iF] at H
  simp only [Option.some.injEq, Prod.mk.injEq] at H
  obtain ⟨rfl, rfl, rfl, rfl, rfl⟩ := H
  go_enter Try.func12, Try.ntmps12
  go_wp2_with (first | ((with_reducible refine Zar (N := 1) rfl ?_); refine boxS (N := 1) (cs := #[.int .i64 i, .int .i64 j, .int .i64 l, .slice m c.length n]) (t := 26) ?_; intro B hg ba hbox hb; have a := mA (hbox); have O := geW (w := w) hg; have X := geW (w := w) hg; replace HB := mA (Zaf (bW) hb); clear hb hbox hg) | ((with_reducible refine Zar (N := 2) rfl ?_); refine boxS (N := 2) (cs := #[.int .i64 0, .int .i64 0, .int .i64 0, .slice none 0 0]) (t := 26) ?_; intro d hg bb hbox hb; have b := mA (hbox); have P := geW (w := w) hg; have Y := geW (w := w) hg; replace HB := mA (Zaf (bW) hb); have q := mA (neB hg a); have r := mA (neC hg a); replace a := mA (blkB a.out hb); clear hb hbox hg; have a3 := q.out; have a4 := r.out; obtain ⟨an, ao, ap, aq⟩ := Zaz a.out; obtain ⟨ar, au, av, aw⟩ := frz4 a.out) | ((with_reducible refine Zat (f := 42) rfl ?_); refine Zbi (some 5) Try.func42 #[.agg #[.int .i64 i, .int .i64 j, .int .i64 l, .slice m c.length n]] ?_; (with_reducible refine (Zcr.calls i j l _ _ c false _ ?side1 ?side2 A2.out).mono ?_); (case side1 => exact cP (zO z.out HB.out)); (case side2 => exact A.out); rintro e bc ⟨rfl, hb⟩; refine ⟨_, rfl, ?_⟩; replace a := mA (blkB a.out hb); replace b := mA (blkB b.out hb); replace HB := mA (Zaf (bW) hb); (try clear hb); (try clear hb2); (try clear hk); (try clear hi); obtain ⟨ax, ay, az, aA⟩ := Zaz b.out; obtain ⟨aB, aC, aD, aE⟩ := frz4 b.out))
  refine bodyPost_ret (Zc7 rfl _ _ d 26 #[.int .i64 0, .int .i64 0, .int .i64 0, .slice none 0 0] (0, 0) _ rfl (by (with_reducible repeat (first | refine Zac ?_ _ | refine Zab ?_ | refine Zaa ?_ _)); refine Zap (cs := #[.int .i64 0, .int .i64 0, .int .i64 0, .slice none 0 0]) ?_ 3 _ rfl; (with_reducible repeat (first | refine Zac ?_ _ | refine Zab ?_ | refine Zaa ?_ _)); refine Zap (cs := #[.int .i64 0, .int .i64 0, .int .i64 0, .slice none 0 0]) ?_ 2 _ rfl; (with_reducible repeat (first | refine Zac ?_ _ | refine Zab ?_ | refine Zaa ?_ _)); refine Zap (cs := #[.int .i64 0, .int .i64 0, .int .i64 0, .slice none 0 0]) ?_ 1 _ rfl; (with_reducible repeat (first | refine Zac ?_ _ | refine Zab ?_ | refine Zaa ?_ _)); refine Zap (cs := #[.int .i64 0, .int .i64 0, .int .i64 0, .slice none 0 0]) ?_ 0 _ rfl; exact bP b.out) Try.underlying26 rfl (by kernel_rfl)) rfl ?_
  exact ⟨_, eW, by first | exact xA _ _ _ _ _ | exact xD _ _ _ _ _ | exact xE _ _ _ _ _ | exact yZ _ _ _ _ _ | exact yN _ _ _ _ _, bW⟩
 subst c3
 rw [if_pos rfl] at H
 replace H := bE H
 obtain ⟨⟨E, G, I, J⟩, A40, H⟩ := H
 try dsimp only at H
 have A4 := mA A40
 clear A40
 replace H := bE H
 obtain ⟨⟨v, x, D, K, ae⟩, A50, H⟩ := H
 try dsimp only at H
 have A5 := mA A50
 clear A50
 simp only [Option.some.injEq, Prod.mk.injEq] at H
 obtain ⟨rfl, rfl, rfl, rfl, rfl⟩ := H
 go_enter Try.func12, Try.ntmps12
 go_wp2_with (first | ((with_reducible refine Zar (N := 1) rfl ?_); refine boxS (N := 1) (cs := #[.int .i64 i, .int .i64 j, .int .i64 l, .slice m c.length n]) (t := 26) ?_; intro B hg w6 hbox hb; have a := mA (hbox); have O := geW (w := w) hg; have X := geW (w := w) hg; replace HB := mA (Zaf (bW) hb); clear hb hbox hg) | ((with_reducible refine Zar (N := 2) rfl ?_); refine boxS (N := 2) (cs := #[.int .i64 0, .int .i64 0, .int .i64 0, .slice none 0 0]) (t := 26) ?_; intro d hg w7 hbox hb; have b := mA (hbox); have P := geW (w := w) hg; have Y := geW (w := w) hg; replace HB := mA (Zaf (bW) hb); have q := mA (neB hg a); have r := mA (neC hg a); replace a := mA (blkB a.out hb); clear hb hbox hg; have a6 := q.out; have a7 := r.out; obtain ⟨aV, aW, aX, aY⟩ := Zaz a.out; obtain ⟨aZ, a0, a1, a2⟩ := frz4 a.out) | ((with_reducible refine Zat (f := 42) rfl ?_); refine Zbi (some 5) Try.func42 #[.agg #[.int .i64 i, .int .i64 j, .int .i64 l, .slice m c.length n]] ?_; (with_reducible refine (Zcr.calls i j l _ _ c true _ ?side1 ?side2 A2.out).mono ?_); (case side1 => exact cP (zO z.out HB.out)); (case side2 => exact A.out); rintro e bd ⟨rfl, hb⟩; refine ⟨_, rfl, ?_⟩; replace a := mA (blkB a.out hb); replace b := mA (blkB b.out hb); replace HB := mA (Zaf (bW) hb); (try clear hb); (try clear hb2); (try clear hk); (try clear hi); obtain ⟨aF, aG, aH, aI⟩ := Zaz a.out; obtain ⟨aJ, aK, aL, aM⟩ := frz4 a.out) | ((with_reducible refine Zat (f := 43) rfl ?_); refine Zbi (some 9) Try.func43 #[.agg #[.int .i64 i, .int .i64 j, .int .i64 l, .slice m c.length n]] ?_; (with_reducible refine (Za4.calls k i j l (fun k_ => k_ < w.heap.size) _ _ c E G I J _ ?side1 A4.out).mono ?_); (case side1 => exact Kd.V_mk A.out (Kd.F_below (Kd.C_F (Kd.heap_slice 2 (Kd.heap_int .i64)) z.out) (bW))); rintro e bf ⟨af, a8, rfl, y, ac, hb⟩; refine ⟨_, rfl, ?_⟩; have s := mA (zU (zC (ok' := fun k_ => True) y (fun _ hk_ => trivial)) (Zao (bW))); have u := mA (Kd.V_lower (yQ (ok' := fun k_ => some k_ ≠ (af : Value).ownBlock ∧ k_ ≠ B ∧ k_ ≠ d) ac (fun k_ hk_ => ⟨hk_.2, Or.elim hk_.1 (fun hs_ => fun e_ => Nat.not_le.2 hs_ (by rw [e_]; exact O.out)) (fun hn_ => (Kd.freshB (g := B) (o := .cells #[.int .i64 i, .int .i64 j, .int .i64 l, .slice m c.length n] 26 (0, 0)) (bP a.out) k_ hn_)), Or.elim hk_.1 (fun hs_ => fun e_ => Nat.not_le.2 hs_ (by rw [e_]; exact P.out)) (fun hn_ => (Kd.freshB (g := d) (o := .cells #[.int .i64 0, .int .i64 0, .int .i64 0, .slice none 0 0] 26 (0, 0)) (bP b.out) k_ hn_))⟩)) (Zao (bW))); replace a := mA (blkB a.out hb); replace b := mA (blkB b.out hb); replace HB := mA (Zaf (bW) hb); (try clear hb); (try clear hb2); (try clear hk); (try clear hi); (try clear y); (try clear ac); obtain ⟨ag, ah, ai⟩ := zN s.out; subst ai; obtain ⟨aj, ak, al⟩ := Kd.V_slice u.out; subst al) | ((with_reducible refine Zat (f := 44) rfl ?_); refine Zbi (some 10) Try.func44 #[.agg #[.int .i64 E, .int .i64 G, .slice ag I.length ah, .slice aj J.length ak]] ?_; (with_reducible refine (Za0.calls k E G _ _ I _ _ J v x D K ae _ ?side1 ?side2 ?side3 ?side4 A5.out).mono ?_); (case side1 => exact cP ((zJ s.out).2.2)); (case side2 => exact (zJ s.out).2.1); (case side3 => exact cP ((Kd.V_reads' u.out).2.2)); (case side4 => exact (Kd.V_reads' u.out).2.1); rintro e bg ⟨a9, rfl, y, hb⟩; refine ⟨_, rfl, ?_⟩; replace s := mA (zM (rP s.out) hb); replace u := mA (Kd.V_elder' (by (with_reducible repeat (first | apply yU | apply yV | apply yS)); exact u.out) (yJ y) hb); have T := mA (yM y (Zao (bW))); replace a := mA (blkB a.out hb); replace b := mA (blkB b.out hb); replace HB := mA (Zaf (bW) hb); (try clear hb); (try clear hb2); (try clear hk); (try clear hi); (try clear y); obtain ⟨aN, aO, aP, aQ⟩ := Zaz b.out; obtain ⟨aR, aS, aT, aU⟩ := frz4 b.out; obtain ⟨U, W, am⟩ := yC T.out; subst am))
 refine bodyPost_ret (Zc7 rfl _ _ d 26 #[.int .i64 v, .int .i64 x, .int .i64 D, .slice U K.length W] (0, 0) _ rfl (by (with_reducible repeat (first | refine Zac ?_ _ | refine Zab ?_ | refine Zaa ?_ _)); refine Zap (cs := #[.int .i64 v, .int .i64 x, .int .i64 D, .slice none 0 0]) ?_ 3 _ rfl; (with_reducible repeat (first | refine Zac ?_ _ | refine Zab ?_ | refine Zaa ?_ _)); refine Zap (cs := #[.int .i64 v, .int .i64 x, .int .i64 0, .slice none 0 0]) ?_ 2 _ rfl; (with_reducible repeat (first | refine Zac ?_ _ | refine Zab ?_ | refine Zaa ?_ _)); refine Zap (cs := #[.int .i64 v, .int .i64 0, .int .i64 0, .slice none 0 0]) ?_ 1 _ rfl; (with_reducible repeat (first | refine Zac ?_ _ | refine Zab ?_ | refine Zaa ?_ _)); refine Zap (cs := #[.int .i64 0, .int .i64 0, .int .i64 0, .slice none 0 0]) ?_ 0 _ rfl; exact bP b.out) Try.underlying26 rfl (by kernel_rfl)) rfl ?_
 exact ⟨_, eW, by (with_reducible repeat (first | apply zH | apply zI | apply zF)); exact zG (zA (p := ⟨d, 3, none⟩) (zA (p := ⟨d, 2, none⟩) (zA (p := ⟨d, 1, none⟩) (zA (p := ⟨d, 0, none⟩) (zR T.out b.out (by decide)) (fun _ hk => hk.2) (.int .i64 v)) (fun _ hk => hk.2) (.int .i64 x)) (fun _ hk => hk.2) (.int .i64 D)) (fun _ hk => hk.2) (.slice U K.length W)) (fun _ hk => trivial), bW⟩
def Zbe.l0 : Nat → List Int → List Int → Int → Option (Bool)
 | 0, _, _, _ => none
 | k + 1, x0, x1, x5 => if x5 < (x0.length : Int) then (if 0 ≤ x5 then (if x5 < (x1.length : Int) then (if (rd x0 x5) = (rd x1 x5) then (Zbe.l0 k x0 x1 (wrap64 (x5 + 1))) else (some false)) else (none)) else (none)) else (some true)
def Zbe.f (k : Nat) (l0 : List Int) (l1 : List Int) : Option (Bool) := if (l0.length : Int) = (l1.length : Int) then (Zbe.l0 k l0 l1 0) else (some false)
theorem Zbe.calls (k : Nat) (A0 : Option Addr) (c0 : Nat) (l0 : List Int) (A1 : Option Addr) (c1 : Nat) (l1 : List Int) (r : Bool) (w : World) (t : Kd.C (Kd.int .i64) w A0 l0.length l0) (u : l0.length ≤ c0) (v : Kd.C (Kd.int .i64) w A1 l1.length l1) (x : l1.length ≤ c1) (h : Zbe.f k l0 l1 = some r) :
  Calls Try.prog 21 #[.slice A0 l0.length c0, .slice A1 l1.length c1] w fun e w' => e = .returned (.bool r) ∧ Zas w w' := by
 have y := mA t
 have I := mA u
 clear t u
 have z := mA v
 have J := mA x
 clear v x
 unfold Zbe.f at h
 have H := h
 clear h
 by_cases c3 : (l0.length : Int) = (l1.length : Int); rotate_left
 ·rw [if_neg c3] at H
  have n : ((l0.length : Int) == (l1.length : Int)) = false := beq_eq_false_iff_ne.mpr c3
  have o : ((l0.length : Int) != (l1.length : Int)) = true := bne_iff_ne.mpr c3
  have p : (l0.length == l1.length) = false := by first | simpa using c3 | (simp at c3 ⊢; omega)
  obtain rfl := oI H
  go_enter Try.func21, Try.ntmps21
  go_wp2
  repeat (go_quiet (fail); try go_wp2)
  go_ret
  exact ⟨eW, by repeat (first | exact Zas.refl _ | apply Zas.step)⟩
 rw [if_pos c3] at H
 have n : ((l0.length : Int) == (l1.length : Int)) = true := beq_iff_eq.mpr c3
 have o : ((l0.length : Int) != (l1.length : Int)) = false := bne_eq_false_iff_eq.mpr c3
 have p : (l0.length == l1.length) = true := by first | simpa using c3 | (simp at c3 ⊢; omega)
 clear c3
 have H' := mA H
 clear H
 go_enter Try.func21, Try.ntmps21
 go_wp2
 repeat (go_quiet (fail); try go_wp2)
 go_loopg [5] k (fun kq v5 w' => ∃ (a : Int), v5 = .int .i64 a ∧ Zad (Zbe.l0 kq l0 l1 a = some r) ∧ Zad (kq ≤ k) ∧ Zas w w')
 case atStart => exact ⟨(0), (eW), H', ⟨Nat.le_refl _⟩, by repeat (first | exact Zas.refl _ | apply Zas.step)⟩
 case round =>
  clear H'
  try clear c1
  try clear c2
  try clear p2
  try clear c3
  try clear n
  try clear o
  try clear p
  obtain ⟨a, rfl, HA, HK1, ⟨m1, rfl⟩⟩ := hrel
  cases gk with
  | zero => exact absurd HA.out (by simp [Zbe.l0])
  | succ k1 =>
   have H := HA.out
   clear HA
   simp only [Zbe.l0] at H
   by_cases c4 : a < (l0.length : Int); rotate_left
   ·rw [if_neg c4] at H
    have A := dF c4
    clear c4
    obtain rfl := oI H
    go_wp2
    repeat (go_quiet (fail); try go_wp2)
    go_ret
    exact ⟨eW, by repeat (first | exact Zas.refl _ | apply Zas.step)⟩
   rw [if_pos c4] at H
   have A := dT c4
   clear c4
   by_cases c5 : 0 ≤ a; rotate_left
   ·rw [if_neg c5] at H
    exact absurd H (by simp)
   rw [if_pos c5] at H
   have E := dT c5
   clear c5
   by_cases c6 : a < (l1.length : Int); rotate_left
   ·rw [if_neg c6] at H
    exact absurd H (by simp)
   rw [if_pos c6] at H
   have G := dT c6
   clear c6
   by_cases c7 : (rd l0 a) = (rd l1 a); rotate_left
   ·rw [if_neg c7] at H
    have B : ((rd l0 a) == (rd l1 a)) = false := beq_eq_false_iff_ne.mpr c7
    have D : ((rd l0 a) != (rd l1 a)) = true := bne_iff_ne.mpr c7
    obtain rfl := oI H
    have b : 0 ≤ (a : Int) := ofD
    have c : a < (l0.length : Int) := ofD
    obtain ⟨q, i, l⟩ := zL y.out a b c
    cases i
    replace b := eq_true b
    replace c := eq_true c
    have d : 0 ≤ (a : Int) := ofD
    have g : a < (l1.length : Int) := ofD
    obtain ⟨s, j, m⟩ := zL z.out a d g
    cases j
    replace d := eq_true d
    replace g := eq_true g
    go_wp2
    repeat (go_quiet (fail); try go_wp2)
    go_ret
    exact ⟨eW, by repeat (first | exact Zas.refl _ | apply Zas.step)⟩
   rw [if_pos c7] at H
   have B : ((rd l0 a) == (rd l1 a)) = true := beq_iff_eq.mpr c7
   have D : ((rd l0 a) != (rd l1 a)) = false := bne_eq_false_iff_eq.mpr c7
   clear c7
   have H' := mA H
   clear H
   have b : 0 ≤ (a : Int) := ofD
   have c : a < (l0.length : Int) := ofD
   obtain ⟨q, i, l⟩ := zL y.out a b c
   cases i
   replace b := eq_true b
   replace c := eq_true c
   have d : 0 ≤ (a : Int) := ofD
   have g : a < (l1.length : Int) := ofD
   obtain ⟨s, j, m⟩ := zL z.out a d g
   cases j
   replace d := eq_true d
   replace g := eq_true g
   go_wp2
   repeat (go_quiet (fail); try go_wp2)
   go_roundg k1
   case measure => have := HK1.out; omega
   case rel => exact ⟨(wrap64 (a + 1)), (eW), H', ⟨by have := HK1.out; omega⟩, by repeat (first | exact Zas.refl _ | apply Zas.step)⟩
def Zbk.l0 : Nat → List (List Int) → List (List Int) → Int → Option (Bool)
 | 0, _, _, _ => none
 | k + 1, x0, x1, x5 => if x5 < (x0.length : Int) then (if 0 ≤ x5 then (if x5 < (x1.length : Int) then ((Zbe.f k (Zah x0 x5) (Zah x1 x5)).bind fun a => (if a = true then (Zbk.l0 k x0 x1 (wrap64 (x5 + 1))) else (some false))) else (none)) else (none)) else (some true)
def Zbk.f (k : Nat) (l0 : List (List Int)) (l1 : List (List Int)) : Option (Bool) := if (l0.length : Int) = (l1.length : Int) then (Zbk.l0 k l0 l1 0) else (some false)
theorem Zbk.calls (k : Nat) (A0 : Option Addr) (c0 : Nat) (l0 : List (List Int)) (A1 : Option Addr) (c1 : Nat) (l1 : List (List Int)) (r : Bool) (w : World) (J : Kd.C (Kd.slice 2 (Kd.int .i64)) w A0 l0.length l0) (K : l0.length ≤ c0) (L : Kd.C (Kd.slice 2 (Kd.int .i64)) w A1 l1.length l1) (M : l1.length ≤ c1) (h : Zbk.f k l0 l1 = some r) :
  Calls Try.prog 25 #[.slice A0 l0.length c0, .slice A1 l1.length c1] w fun e w' => e = .returned (.bool r) ∧ Zas w w' := by
 have O := mA J
 have aa := mA K
 clear J K
 have P := mA L
 have ab := mA M
 clear L M
 unfold Zbk.f at h
 have H := h
 clear h
 by_cases c3 : (l0.length : Int) = (l1.length : Int); rotate_left
 ·rw [if_neg c3] at H
  have x : ((l0.length : Int) == (l1.length : Int)) = false := beq_eq_false_iff_ne.mpr c3
  have y : ((l0.length : Int) != (l1.length : Int)) = true := bne_iff_ne.mpr c3
  have z : (l0.length == l1.length) = false := by first | simpa using c3 | (simp at c3 ⊢; omega)
  obtain rfl := oI H
  go_enter Try.func25, Try.ntmps25
  go_wp2
  repeat (go_quiet (fail); try go_wp2)
  go_ret
  exact ⟨eW, by repeat (first | exact Zas.refl _ | apply Zas.step)⟩
 rw [if_pos c3] at H
 have x : ((l0.length : Int) == (l1.length : Int)) = true := beq_iff_eq.mpr c3
 have y : ((l0.length : Int) != (l1.length : Int)) = false := bne_eq_false_iff_eq.mpr c3
 have z : (l0.length == l1.length) = true := by first | simpa using c3 | (simp at c3 ⊢; omega)
 clear c3
 have H' := mA H
 clear H
 go_enter Try.func25, Try.ntmps25
 go_wp2
 repeat (go_quiet (fail); try go_wp2)
 go_loopg [5] k (fun kq v5 w' => ∃ (a : Int), v5 = .int .i64 a ∧ Zad (Zbk.l0 kq l0 l1 a = some r) ∧ Zad (kq ≤ k) ∧ Zas w w')
 case atStart => exact ⟨(0), (eW), H', ⟨Nat.le_refl _⟩, by repeat (first | exact Zas.refl _ | apply Zas.step)⟩
 case round =>
  clear H'
  try clear c1
  try clear c2
  try clear p2
  try clear c3
  try clear x
  try clear y
  try clear z
  obtain ⟨a, rfl, HA, HK1, ⟨m1, rfl⟩⟩ := hrel
  cases gk with
  | zero => exact absurd HA.out (by simp [Zbk.l0])
  | succ k1 =>
   have H := HA.out
   clear HA
   simp only [Zbk.l0] at H
   by_cases c4 : a < (l0.length : Int); rotate_left
   ·rw [if_neg c4] at H
    have U := dF c4
    clear c4
    obtain rfl := oI H
    go_wp2
    repeat (go_quiet (fail); try go_wp2)
    go_ret
    exact ⟨eW, by repeat (first | exact Zas.refl _ | apply Zas.step)⟩
   rw [if_pos c4] at H
   have U := dT c4
   clear c4
   by_cases c5 : 0 ≤ a; rotate_left
   ·rw [if_neg c5] at H
    exact absurd H (by simp)
   rw [if_pos c5] at H
   have X := dT c5
   clear c5
   by_cases c6 : a < (l1.length : Int); rotate_left
   ·rw [if_neg c6] at H
    exact absurd H (by simp)
   rw [if_pos c6] at H
   have Y := dT c6
   clear c6
   replace H := bE H
   obtain ⟨W, T, H⟩ := H
   have A7 := mA T
   clear T
   by_cases c8 : W = true; rotate_left
   ·replace c8 := Bool.eq_false_iff.mpr c8
    subst c8
    rw [iF] at H
    obtain rfl := oI H
    have n : 0 ≤ (a : Int) := ofD
    have o : a < (l0.length : Int) := ofD
    obtain ⟨G, A, B, s, u, i, j⟩ := Zca O.out a n o
    cases s
    have b := mA j
    have c := mA i
    clear j i
    replace n := eq_true n
    replace o := eq_true o
    have p : 0 ≤ (a : Int) := ofD
    have q : a < (l1.length : Int) := ofD
    obtain ⟨I, D, E, t, v, l, m⟩ := Zca P.out a p q
    cases t
    have d := mA m
    have g := mA l
    clear m l
    replace p := eq_true p
    replace q := eq_true q
    go_wp2_with (first | (go_at_call 21; (with_reducible refine (Zbe.calls k1 _ _ (Zah l0 a) _ _ (Zah l1 a) false _ ?side1 ?side2 ?side3 ?side4 A7.out).mono ?_); (case side1 => exact cP b.out); (case side2 => exact c.out); (case side3 => exact cP d.out); (case side4 => exact g.out); rintro e w' ⟨rfl, ⟨nd, rfl⟩⟩; (try first | exact dwD | exact dwE)))
    repeat (go_quiet (first | (go_at_call 21; (with_reducible refine (Zbe.calls k1 _ _ (Zah l0 a) _ _ (Zah l1 a) false _ ?side1 ?side2 ?side3 ?side4 A7.out).mono ?_); (case side1 => exact cP b.out); (case side2 => exact c.out); (case side3 => exact cP d.out); (case side4 => exact g.out); rintro e w' ⟨rfl, ⟨nd, rfl⟩⟩; (try first | exact dwD | exact dwE))); try go_wp2_with (first | (go_at_call 21; (with_reducible refine (Zbe.calls k1 _ _ (Zah l0 a) _ _ (Zah l1 a) false _ ?side1 ?side2 ?side3 ?side4 A7.out).mono ?_); (case side1 => exact cP b.out); (case side2 => exact c.out); (case side3 => exact cP d.out); (case side4 => exact g.out); rintro e w' ⟨rfl, ⟨nd, rfl⟩⟩; (try first | exact dwD | exact dwE))))
    go_ret
    exact ⟨eW, by repeat (first | exact Zas.refl _ | apply Zas.step)⟩
   subst c8
   rw [if_pos rfl] at H
   have H' := mA H
   clear H
   have n : 0 ≤ (a : Int) := ofD
   have o : a < (l0.length : Int) := ofD
   obtain ⟨G, A, B, s, u, i, j⟩ := Zca O.out a n o
   cases s
   have b := mA j
   have c := mA i
   clear j i
   replace n := eq_true n
   replace o := eq_true o
   have p : 0 ≤ (a : Int) := ofD
   have q : a < (l1.length : Int) := ofD
   obtain ⟨I, D, E, t, v, l, m⟩ := Zca P.out a p q
   cases t
   have d := mA m
   have g := mA l
   clear m l
   replace p := eq_true p
   replace q := eq_true q
   go_wp2_with (first | (go_at_call 21; (with_reducible refine (Zbe.calls k1 _ _ (Zah l0 a) _ _ (Zah l1 a) true _ ?side1 ?side2 ?side3 ?side4 A7.out).mono ?_); (case side1 => exact cP b.out); (case side2 => exact c.out); (case side3 => exact cP d.out); (case side4 => exact g.out); rintro e w' ⟨rfl, ⟨nd, rfl⟩⟩; (try first | exact dwD | exact dwE)))
   repeat (go_quiet (first | (go_at_call 21; (with_reducible refine (Zbe.calls k1 _ _ (Zah l0 a) _ _ (Zah l1 a) true _ ?side1 ?side2 ?side3 ?side4 A7.out).mono ?_); (case side1 => exact cP b.out); (case side2 => exact c.out); (case side3 => exact cP d.out); (case side4 => exact g.out); rintro e w' ⟨rfl, ⟨nd, rfl⟩⟩; (try first | exact dwD | exact dwE))); try go_wp2_with (first | (go_at_call 21; (with_reducible refine (Zbe.calls k1 _ _ (Zah l0 a) _ _ (Zah l1 a) true _ ?side1 ?side2 ?side3 ?side4 A7.out).mono ?_); (case side1 => exact cP b.out); (case side2 => exact c.out); (case side3 => exact cP d.out); (case side4 => exact g.out); rintro e w' ⟨rfl, ⟨nd, rfl⟩⟩; (try first | exact dwD | exact dwE))))
   go_roundg k1
   case measure => have := HK1.out; omega
   case rel => exact ⟨(wrap64 (a + 1)), (eW), H', ⟨by have := HK1.out; omega⟩, by repeat (first | exact Zas.refl _ | apply Zas.step)⟩
def Zbf.f (k : Nat) (a : Int) (b : Int) (c : Int) (d : List (List Int)) (e : Int) (g : Int) (h : Int) (i : List (List Int)) : Option (Bool) := if a = e then (if b = g then (if c = h then ((Zbk.f k d i).bind fun j => (if j = true then (some true) else (some false))) else (some false)) else (some false)) else (some false)
theorem Zbf.calls (k : Nat) (j : Int) (l : Int) (m : Int) (q : Option Addr) (s : Nat) (g : List (List Int)) (n : Int) (o : Int) (p : Int) (u : Option Addr) (v : Nat) (i : List (List Int)) (r : Bool) (w : World) (E : Kd.C (Kd.slice 2 (Kd.int .i64)) w q g.length g) (G : g.length ≤ s) (I : Kd.C (Kd.slice 2 (Kd.int .i64)) w u i.length i) (J : i.length ≤ v) (h : Zbf.f k j l m g n o p i = some r) :
  Calls Try.prog 13 #[.agg #[.int .i64 j, .int .i64 l, .int .i64 m, .slice q g.length s], .agg #[.int .i64 n, .int .i64 o, .int .i64 p, .slice u i.length v]] w fun e w' => e = .returned (.bool r) ∧ Below w.heap.size w w' := by
 have bK := Try.underlying26
 have K := mA E
 have L := mA G
 clear E G
 have M := mA I
 have O := mA J
 clear I J
 have HB := mA (Below.refl w.heap.size w)
 unfold Zbf.f at h
 have H := h
 clear h
 by_cases c3 : j = n; rotate_left
 ·rw [if_neg c3] at H
  have T : (j == n) = false := beq_eq_false_iff_ne.mpr c3
  have U : (j != n) = true := bne_iff_ne.mpr c3
  obtain rfl := oI H
  go_enter Try.func13, Try.ntmps13
  go_wp2_with (first | ((with_reducible refine Zar (N := 2) rfl ?_); refine boxS (N := 2) (cs := #[.int .i64 j, .int .i64 l, .int .i64 m, .slice q g.length s]) (t := 26) ?_; intro x hg bL hbox hb; have a := mA (hbox); have y := geW (w := w) hg; have z := geW (w := w) hg; replace HB := mA (Zaf (bW) hb); clear hb hbox hg) | ((with_reducible refine Zar (N := 3) rfl ?_); refine boxS (N := 3) (cs := #[.int .i64 n, .int .i64 o, .int .i64 p, .slice u i.length v]) (t := 26) ?_; intro A hg bM hbox hb; have d := mA (hbox); have B := geW (w := w) hg; have D := geW (w := w) hg; replace HB := mA (Zaf (bW) hb); have b := mA (neB hg a); have c := mA (neC hg a); replace a := mA (blkB a.out hb); clear hb hbox hg; have bz := b.out; have bA := c.out; obtain ⟨ac, ad, ae, af⟩ := Zaz a.out; obtain ⟨ag, ah, ai, aj⟩ := frz4 a.out; obtain ⟨ak, al, am, an⟩ := Zaz d.out; obtain ⟨ao, ap, aq, ar⟩ := frz4 d.out))
  go_ret
  exact ⟨eW, bW⟩
 rw [if_pos c3] at H
 have T : (j == n) = true := beq_iff_eq.mpr c3
 have U : (j != n) = false := bne_eq_false_iff_eq.mpr c3
 clear c3
 by_cases c4 : l = o; rotate_left
 ·rw [if_neg c4] at H
  have W : (l == o) = false := beq_eq_false_iff_ne.mpr c4
  have X : (l != o) = true := bne_iff_ne.mpr c4
  obtain rfl := oI H
  go_enter Try.func13, Try.ntmps13
  go_wp2_with (first | ((with_reducible refine Zar (N := 2) rfl ?_); refine boxS (N := 2) (cs := #[.int .i64 j, .int .i64 l, .int .i64 m, .slice q g.length s]) (t := 26) ?_; intro x hg bN hbox hb; have a := mA (hbox); have y := geW (w := w) hg; have z := geW (w := w) hg; replace HB := mA (Zaf (bW) hb); clear hb hbox hg) | ((with_reducible refine Zar (N := 3) rfl ?_); refine boxS (N := 3) (cs := #[.int .i64 n, .int .i64 o, .int .i64 p, .slice u i.length v]) (t := 26) ?_; intro A hg bO hbox hb; have d := mA (hbox); have B := geW (w := w) hg; have D := geW (w := w) hg; replace HB := mA (Zaf (bW) hb); have b := mA (neB hg a); have c := mA (neC hg a); replace a := mA (blkB a.out hb); clear hb hbox hg; have bB := b.out; have bC := c.out; obtain ⟨au, av, aw, ax⟩ := Zaz a.out; obtain ⟨ay, az, aA, aB⟩ := frz4 a.out; obtain ⟨aC, aD, aE, aF⟩ := Zaz d.out; obtain ⟨aG, aH, aI, aJ⟩ := frz4 d.out))
  go_ret
  exact ⟨eW, bW⟩
 rw [if_pos c4] at H
 have W : (l == o) = true := beq_iff_eq.mpr c4
 have X : (l != o) = false := bne_eq_false_iff_eq.mpr c4
 clear c4
 by_cases c5 : m = p; rotate_left
 ·rw [if_neg c5] at H
  have Y : (m == p) = false := beq_eq_false_iff_ne.mpr c5
  have aa : (m != p) = true := bne_iff_ne.mpr c5
  obtain rfl := oI H
  go_enter Try.func13, Try.ntmps13
  go_wp2_with (first | ((with_reducible refine Zar (N := 2) rfl ?_); refine boxS (N := 2) (cs := #[.int .i64 j, .int .i64 l, .int .i64 m, .slice q g.length s]) (t := 26) ?_; intro x hg bQ hbox hb; have a := mA (hbox); have y := geW (w := w) hg; have z := geW (w := w) hg; replace HB := mA (Zaf (bW) hb); clear hb hbox hg) | ((with_reducible refine Zar (N := 3) rfl ?_); refine boxS (N := 3) (cs := #[.int .i64 n, .int .i64 o, .int .i64 p, .slice u i.length v]) (t := 26) ?_; intro A hg bR hbox hb; have d := mA (hbox); have B := geW (w := w) hg; have D := geW (w := w) hg; replace HB := mA (Zaf (bW) hb); have b := mA (neB hg a); have c := mA (neC hg a); replace a := mA (blkB a.out hb); clear hb hbox hg; have bD := b.out; have bF := c.out; obtain ⟨aK, aL, aM, aN⟩ := Zaz a.out; obtain ⟨aO, aP, aQ, aR⟩ := frz4 a.out; obtain ⟨aS, aT, aU, aV⟩ := Zaz d.out; obtain ⟨aW, aX, aY, aZ⟩ := frz4 d.out))
  go_ret
  exact ⟨eW, bW⟩
 rw [if_pos c5] at H
 have Y : (m == p) = true := beq_iff_eq.mpr c5
 have aa : (m != p) = false := bne_eq_false_iff_eq.mpr c5
 clear c5
 replace H := bE H
 obtain ⟨ab, P, H⟩ := H
 have A6 := mA P
 clear P
 by_cases c7 : ab = true
 ·subst c7
  rw [if_pos rfl] at H
  obtain rfl := oI H
  go_enter Try.func13, Try.ntmps13
  go_wp2_with (first | ((with_reducible refine Zar (N := 2) rfl ?_); refine boxS (N := 2) (cs := #[.int .i64 j, .int .i64 l, .int .i64 m, .slice q g.length s]) (t := 26) ?_; intro x hg w8 hbox hb; have a := mA (hbox); have y := geW (w := w) hg; have z := geW (w := w) hg; replace HB := mA (Zaf (bW) hb); clear hb hbox hg) | ((with_reducible refine Zar (N := 3) rfl ?_); refine boxS (N := 3) (cs := #[.int .i64 n, .int .i64 o, .int .i64 p, .slice u i.length v]) (t := 26) ?_; intro A hg w9 hbox hb; have d := mA (hbox); have B := geW (w := w) hg; have D := geW (w := w) hg; replace HB := mA (Zaf (bW) hb); have b := mA (neB hg a); have c := mA (neC hg a); replace a := mA (blkB a.out hb); clear hb hbox hg; have bG := b.out; have bH := c.out; obtain ⟨a0, a1, a2, a3⟩ := Zaz a.out; obtain ⟨a4, a5, a6, a7⟩ := frz4 a.out; obtain ⟨a8, a9, ba, bb⟩ := Zaz d.out; obtain ⟨bc, bd, bf, bg⟩ := frz4 d.out) | ((with_reducible refine Zat (f := 25) rfl ?_); refine Zbi (some 24) Try.func25 #[.slice q g.length s, .slice u i.length v] ?_; (with_reducible refine (Zbk.calls k _ _ g _ _ i true _ ?side1 ?side2 ?side3 ?side4 A6.out).mono ?_); (case side1 => exact cP (zO K.out HB.out)); (case side2 => exact L.out); (case side3 => exact cP (zO M.out HB.out)); (case side4 => exact O.out); rintro e w' ⟨rfl, ⟨nd, rfl⟩⟩; refine ⟨_, rfl, ?_⟩))
  go_ret
  exact ⟨eW, bW⟩
 replace c7 := Bool.eq_false_iff.mpr c7
 subst c7
 rw [iF] at H
 obtain rfl := oI H
 go_enter Try.func13, Try.ntmps13
 go_wp2_with (first | ((with_reducible refine Zar (N := 2) rfl ?_); refine boxS (N := 2) (cs := #[.int .i64 j, .int .i64 l, .int .i64 m, .slice q g.length s]) (t := 26) ?_; intro x hg bS hbox hb; have a := mA (hbox); have y := geW (w := w) hg; have z := geW (w := w) hg; replace HB := mA (Zaf (bW) hb); clear hb hbox hg) | ((with_reducible refine Zar (N := 3) rfl ?_); refine boxS (N := 3) (cs := #[.int .i64 n, .int .i64 o, .int .i64 p, .slice u i.length v]) (t := 26) ?_; intro A hg bT hbox hb; have d := mA (hbox); have B := geW (w := w) hg; have D := geW (w := w) hg; replace HB := mA (Zaf (bW) hb); have b := mA (neB hg a); have c := mA (neC hg a); replace a := mA (blkB a.out hb); clear hb hbox hg; have bI := b.out; have bJ := c.out; obtain ⟨bh, bi, bj, bk⟩ := Zaz a.out; obtain ⟨bl, bm, bn, bo⟩ := frz4 a.out; obtain ⟨bp, bq, br, bs⟩ := Zaz d.out; obtain ⟨bu, bv, bw, bx⟩ := frz4 d.out) | ((with_reducible refine Zat (f := 25) rfl ?_); refine Zbi (some 24) Try.func25 #[.slice q g.length s, .slice u i.length v] ?_; (with_reducible refine (Zbk.calls k _ _ g _ _ i false _ ?side1 ?side2 ?side3 ?side4 A6.out).mono ?_); (case side1 => exact cP (zO K.out HB.out)); (case side2 => exact L.out); (case side3 => exact cP (zO M.out HB.out)); (case side4 => exact O.out); rintro e w' ⟨rfl, ⟨nd, rfl⟩⟩; refine ⟨_, rfl, ?_⟩))
 go_ret
 exact ⟨eW, bW⟩
end Go.Proofs.Ytgindgodfcfgkaa.P
end M0
