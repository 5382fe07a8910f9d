import Derived.Test.YtgindgodfcfgkaaDoorCFnExactLettersCommute16
section M0
namespace Go.Proofs.YtgindgodfcfgkaaDoor.P
open Go.RowKit Go.Proofs.YtgindgodfcfgkaaDoor.Sh Go.Proofs.YtgindgodfcfgkaaDoorW.PrintWords Go.Proofs.YtgindgodfcfgkaaDoorW.PrintLast Go.Proofs.YtgindgodfcfgkaaDoorW.PrintMore
open Kd
attribute [local go_sem] Zcd Zca Zcn Zcm Zb1 Zb2 Zcc Zce   -- for this text's walks alone
set_option linter.unusedVariables false
set_option linter.unusedSimpArgs false
mutual
def Zat.l0 : Nat → List Int → Int → Int → List Int → Int → Int → Int → List (List Int) → Int → Int → Int → List (List Int) → Option (Bool × Int)
 | 0, _, _, _, _, _, _, _, _, _, _, _, _ => none
 | k + 1, x8, x9, b, c, a, d, e, g, h, i, j, l => if x9 < a then (Zat.l1 k x8 x9 (wrap64 (x9 + 1)) b c a d e g h i j l) else (some (true, 0))
def Zat.l1 : Nat → List Int → Int → Int → Int → List Int → Int → Int → Int → List (List Int) → Int → Int → Int → List (List Int) → Option (Bool × Int)
 | 0, _, _, _, _, _, _, _, _, _, _, _, _, _ => none
 | k + 1, x8, x9, m, e, g, h, i, j, l, a, b, c, d => if m < h then ((Zdk.f e g x9 m).bind fun n => (if n = true then (Zat.l1 k x8 x9 (wrap64 (m + 1)) e g h i j l a b c d) else ((Zbg.f k a b c d x8 x9).bind fun o => ((Zbg.f k a b c d o m).bind fun p => ((Zbg.f k a b c d x8 m).bind fun q => ((Zbg.f k a b c d q x9).bind fun r => ((Zb9.f k p r).bind fun s => (if s = true then (Zat.l1 k x8 x9 (wrap64 (m + 1)) e g h i j l a b c d) else (some (false, 0)))))))))) else (Zat.l0 k x8 (wrap64 (x9 + 1)) e g h i j l a b c d)
end
def Zat.f (k : Nat) (g : Int) (h : List Int) (b : Int) (c : Int) (d : Int) (e : List (List Int)) : Option (Bool × Int) := (Zcf.f k g h b c d e).bind fun i => (if i = 0 then ((Zdm.f k b c d e).bind fun a => ((Zb8.f k a.1 a.2.1 a.2.2.1 a.2.2.2).bind fun j => (Zat.l0 k j 0 g h b c d e a.1 a.2.1 a.2.2.1 a.2.2.2))) else (some (false, i)))
def Zat.T12 : Bool × List (List Nat × List Nat) := (true, [([], []), ([], []), ([], []), ([0, 1, 2], [0, 1, 2]), ([3], [3]), ([4, 3], [4]), ([5], [5]), ([5], [5]), ([5], [5]), ([5], [5]), ([7, 8, 9, 5, 5], [5, 7, 8, 9]), ([5], [5]), ([6, 10, 11, 10, 5], [5, 6, 10, 11]), ([5], [5]), ([5], [5]), ([5], [5]), ([5], [5]), ([14, 15, 16, 12, 5], [5, 14, 15, 16]), ([5], [5]), ([13, 17, 18, 17, 5], [5, 13, 17, 18]), ([12, 19, 19, 5], [5, 12, 19]), ([20, 5], [5, 20]), ([5, 21], [5, 21])])
def Zat.B12 : List Nat := [0, 0, 0, 7, 15, 31, 63, 63, 63, 63, 959, 63, 4095, 63, 63, 63, 63, 122879, 63, 524287, 1048575, 2097151, 4194303]
theorem Zat.tab12 : rtab .any (opsOf Tryd.f13 12) = Zat.T12 := by kernel_rfl
theorem Zat.bits12 : Zc0 Zat.T12.2 Zat.B12 = true := by kernel_rfl
set_option maxHeartbeats 8000000 in
set_option maxRecDepth 100000 in
theorem Zat.calls (k : Nat) (I : Int) (ad : Option Addr) (ae : Nat) (A : List Int) (G : Int) (P : Int) (T : Int) (ab : Option Addr) (ac : Nat) (B : List (List Int)) (r1 : Bool) (r2 : Int) (w : World) (aE : Kd.C (Kd.int .i64) w ad A.length A) (aF : A.length ≤ ae) (aG : Kd.C (Kd.slice 2 (Kd.int .i64)) w ab B.length B) (aH : B.length ≤ ac) (h : Zat.f k I A G P T B = some (r1, r2)) :
  Calls Tryd.prog 13 #[.agg #[.int .i64 I, .slice ad A.length ae], .agg #[.int .i64 G, .int .i64 P, .int .i64 T, .slice ab B.length ac]] w fun e w' => e = .returned (.tuple #[.bool r1, .int .i64 r2]) ∧ Below w.heap.size w w' := by
 have d0 := Tryd.underlying32
 have d1 := Tryd.underlying34
 have ao := mA aE
 have ap := mA aF
 clear aE aF
 have aA := mA aG
 have aB := mA aH
 clear aG aH
 have HB := mA (Below.refl w.heap.size w)
 unfold Zat.f at h
 have H := h
 clear h
 replace H := bE H
 obtain ⟨an, bU, H⟩ := H
 have A3 := mA bU
 clear bU
 by_cases c4 : an = 0; rotate_left
 ·rw [if_neg c4] at H
  have bn : (an == 0) = false := beq_eq_false_iff_ne.mpr c4
  have bo : (an != 0) = true := bne_iff_ne.mpr c4
  simp only [Option.some.injEq, Prod.mk.injEq] at H
  obtain ⟨rfl, rfl⟩ := H
  go_enter Tryd.func13, Tryd.ntmps13
  go_wp2_with (first | ((with_reducible refine Zap (N := 2) rfl ?_); refine boxS (N := 2) (cs := #[.int .i64 I, .slice ad A.length ae]) (t := 32) ?_; intro aj hg d5 hbox hb; have d := mA (hbox); have bN := geW (w := w) hg; have bO := geW (w := w) hg; replace HB := mA (Zac (bW) hb); clear hb hbox hg) | ((with_reducible refine Zap (N := 3) rfl ?_); refine boxS (N := 3) (cs := #[.int .i64 G, .int .i64 P, .int .i64 T, .slice ab B.length ac]) (t := 34) ?_; intro q hg d6 hbox hb; have a := mA (hbox); have bQ := geW (w := w) hg; have bR := geW (w := w) hg; replace HB := mA (Zac (bW) hb); have J := mA (neB hg d); have L := mA (neC hg d); replace d := mA (blkB d.out hb); clear hb hbox hg; have dr := J.out; have dt := L.out; obtain ⟨cq, cr⟩ := Zc6 d.out; obtain ⟨ct, cu⟩ := frz2 d.out; obtain ⟨cv, cw, cx, cy⟩ := Zbi a.out; obtain ⟨cz, cA, cB, cC⟩ := frz4 a.out) | ((with_reducible refine Zav (f := 17) rfl ?_); refine Zbo (some 13) Tryd.func17 #[.agg #[.int .i64 I, .slice ad A.length ae], .agg #[.int .i64 G, .int .i64 P, .int .i64 T, .slice ab B.length ac]] ?_; (with_reducible refine (Zcf.calls k I _ _ A G P T _ _ B an _ ?side1 ?side2 ?side3 ?side4 A3.out).mono ?_); (case side1 => exact cP (zF ao.out HB.out)); (case side2 => exact ap.out); (case side3 => exact cP (zF aA.out HB.out)); (case side4 => exact aB.out); rintro e d7 ⟨rfl, hb⟩; refine ⟨_, rfl, ?_⟩; replace d := mA (blkB d.out hb); replace a := mA (blkB a.out hb); replace HB := mA (Zac (bW) hb); (try clear hb); (try clear hb2); (try clear hk); (try clear hi)))
  go_ret2
  exact ⟨eW, bW⟩
 rw [if_pos c4] at H
 have bn : (an == 0) = true := beq_iff_eq.mpr c4
 have bo : (an != 0) = false := bne_eq_false_iff_eq.mpr c4
 clear c4
 replace H := bE H
 obtain ⟨⟨u, v, x, r⟩, A50, H⟩ := H
 try dsimp only at H
 have A5 := mA A50
 clear A50
 replace H := bE H
 obtain ⟨ai, bV, H⟩ := H
 have A6 := mA bV
 clear bV
 have H' := mA H
 clear H
 go_enter Tryd.func13, Tryd.ntmps13
 go_wp2_with (first | ((with_reducible refine Zap (N := 2) rfl ?_); refine boxS (N := 2) (cs := #[.int .i64 I, .slice ad A.length ae]) (t := 32) ?_; intro aj hg w7 hbox hb; have d := mA (hbox); have bN := geW (w := w) hg; have bO := geW (w := w) hg; replace HB := mA (Zac (bW) hb); clear hb hbox hg) | ((with_reducible refine Zap (N := 3) rfl ?_); refine boxS (N := 3) (cs := #[.int .i64 G, .int .i64 P, .int .i64 T, .slice ab B.length ac]) (t := 34) ?_; intro q hg w8 hbox hb; have a := mA (hbox); have bQ := geW (w := w) hg; have bR := geW (w := w) hg; replace HB := mA (Zac (bW) hb); have J := mA (neB hg d); have L := mA (neC hg d); replace d := mA (blkB d.out hb); clear hb hbox hg; have d2 := J.out; have d3 := L.out; obtain ⟨aL, aM⟩ := Zc6 d.out; obtain ⟨aN, aO⟩ := frz2 d.out; obtain ⟨aP, aQ, aR, aS⟩ := Zbi a.out; obtain ⟨aT, aU, aV, aW⟩ := frz4 a.out) | ((with_reducible refine Zav (f := 17) rfl ?_); refine Zbo (some 13) Tryd.func17 #[.agg #[.int .i64 I, .slice ad A.length ae], .agg #[.int .i64 G, .int .i64 P, .int .i64 T, .slice ab B.length ac]] ?_; (with_reducible refine (Zcf.calls k I _ _ A G P T _ _ B an _ ?side1 ?side2 ?side3 ?side4 A3.out).mono ?_); (case side1 => exact cP (zF ao.out HB.out)); (case side2 => exact ap.out); (case side3 => exact cP (zF aA.out HB.out)); (case side4 => exact aB.out); rintro e d8 ⟨rfl, hb⟩; refine ⟨_, rfl, ?_⟩; replace d := mA (blkB d.out hb); replace a := mA (blkB a.out hb); replace HB := mA (Zac (bW) hb); (try clear hb); (try clear hb2); (try clear hk); (try clear hi); obtain ⟨aX, aY, aZ, a0⟩ := Zbi a.out; obtain ⟨a1, a2, a3, a4⟩ := frz4 a.out) | ((with_reducible refine Zav (f := 26) rfl ?_); refine Zbo (some 18) Tryd.func26 #[.agg #[.int .i64 G, .int .i64 P, .int .i64 T, .slice ab B.length ac]] ?_; (with_reducible refine (Zdm.calls k G P T _ _ B u v x r _ ?side1 ?side2 A5.out).mono ?_); (case side1 => exact cP (zF aA.out HB.out)); (case side2 => exact aB.out); rintro e d9 ⟨d4, rfl, m, hb⟩; refine ⟨_, rfl, ?_⟩; have al := mA (xQ m (Zag (bW))); replace d := mA (blkB d.out hb); replace a := mA (blkB a.out hb); replace HB := mA (Zac (bW) hb); (try clear hb); (try clear hb2); (try clear hk); (try clear hi); (try clear m)) | ((with_reducible refine Zap (N := 7) rfl ?_); refine boxS (N := 7) (cs := #[.int .i64 0, .int .i64 0, .int .i64 0, .slice none 0 0]) (t := 34) ?_; intro D hg ea hbox hb; replace al := mA (yQ (sP al.out) hb); have b := mA (hbox); have du := geW (w := w) hg; have dv := geW (w := w) hg; replace HB := mA (Zac (bW) hb); have ak := mA (neB hg d); have aD := mA (neC hg d); replace d := mA (blkB d.out hb); have y := mA (neB hg a); have Y := mA (neC hg a); replace a := mA (blkB a.out hb); clear hb hbox hg; have dw := aD.out; have dx := ak.out; have dy := Y.out; have dz := y.out; obtain ⟨a5, a6, a7, a8⟩ := Zbi b.out; obtain ⟨a9, ba, bb, bd⟩ := frz4 b.out; obtain ⟨X, W, b2⟩ := xK al.out; subst b2) | ((with_reducible refine Zav (f := 27) rfl ?_); refine Zbo (some 20) Tryd.func27 #[.agg #[.int .i64 u, .int .i64 v, .int .i64 x, .slice X r.length W]] ?_; (with_reducible refine (Zb8.calls k u v x _ _ r ai _ ?side1 ?side2 A6.out).mono ?_); (case side1 => refine (yL (e := 22) (base := w.heap.size) (ok := fun k_ => True) (n := r.length) (c := W) ?_).2.2; exact (by (with_reducible repeat (first | apply yD | apply yE | apply zW)); exact (yC (zZ (p := ⟨D, 3, none⟩) (zZ (p := ⟨D, 2, none⟩) (zZ (p := ⟨D, 1, none⟩) (zZ (p := ⟨D, 0, none⟩) (yZ al.out b.out (by decide)) (fun _ hk => hk.2) (.int .i64 u)) (fun _ hk => hk.2) (.int .i64 v)) (fun _ hk => hk.2) (.int .i64 x)) (fun _ hk => hk.2) (.slice X r.length W)) (fun _ h_ => h_.1)))); (case side2 => exact (yL al.out).2.1); rintro e eb ⟨aC, rfl, m, hb⟩; refine ⟨_, rfl, ?_⟩; replace al := mA (xB (by (with_reducible repeat (first | apply yD | apply yE | apply zW)); exact (yC (zZ (p := ⟨D, 3, none⟩) (zZ (p := ⟨D, 2, none⟩) (zZ (p := ⟨D, 1, none⟩) (zZ (p := ⟨D, 0, none⟩) (yZ al.out b.out (by decide)) (fun _ hk => hk.2) (.int .i64 u)) (fun _ hk => hk.2) (.int .i64 v)) (fun _ hk => hk.2) (.int .i64 x)) (fun _ hk => hk.2) (.slice X r.length W)) (fun _ h_ => h_.1))) (zH m) hb); have bS := mA (zP m (Zag (bW))); replace d := mA (Zc3 (g := aj) (o := .cells #[.int .i64 I, .slice ad A.length ae] 32 (0, 0)) (by (with_reducible repeat (first | refine Zaj ?_ _ | refine Zad ?_ | refine Zaf ?_ _)); refine Za4 ?_ ak.out _; (with_reducible repeat (first | refine Zaj ?_ _ | refine Zad ?_ | refine Zaf ?_ _)); refine Za4 ?_ ak.out _; (with_reducible repeat (first | refine Zaj ?_ _ | refine Zad ?_ | refine Zaf ?_ _)); refine Za4 ?_ ak.out _; (with_reducible repeat (first | refine Zaj ?_ _ | refine Zad ?_ | refine Zaf ?_ _)); refine Za4 ?_ ak.out _; exact bP d.out) hb); replace a := mA (Zc3 (g := q) (o := .cells #[.int .i64 G, .int .i64 P, .int .i64 T, .slice ab B.length ac] 34 (0, 0)) (by (with_reducible repeat (first | refine Zaj ?_ _ | refine Zad ?_ | refine Zaf ?_ _)); refine Za4 ?_ y.out _; (with_reducible repeat (first | refine Zaj ?_ _ | refine Zad ?_ | refine Zaf ?_ _)); refine Za4 ?_ y.out _; (with_reducible repeat (first | refine Zaj ?_ _ | refine Zad ?_ | refine Zaf ?_ _)); refine Za4 ?_ y.out _; (with_reducible repeat (first | refine Zaj ?_ _ | refine Zad ?_ | refine Zaf ?_ _)); refine Za4 ?_ y.out _; exact bP a.out) hb); replace b := mA (Zc3 (g := D) (o := .cells #[.int .i64 u, .int .i64 v, .int .i64 x, .slice X r.length W] 34 (0, 0)) (by (with_reducible repeat (first | refine Zaj ?_ _ | refine Zad ?_ | refine Zaf ?_ _)); refine Za3 (cs := #[.int .i64 u, .int .i64 v, .int .i64 x, .slice none 0 0]) ?_ 3 _ rfl; (with_reducible repeat (first | refine Zaj ?_ _ | refine Zad ?_ | refine Zaf ?_ _)); refine Za3 (cs := #[.int .i64 u, .int .i64 v, .int .i64 0, .slice none 0 0]) ?_ 2 _ rfl; (with_reducible repeat (first | refine Zaj ?_ _ | refine Zad ?_ | refine Zaf ?_ _)); refine Za3 (cs := #[.int .i64 u, .int .i64 0, .int .i64 0, .slice none 0 0]) ?_ 1 _ rfl; (with_reducible repeat (first | refine Zaj ?_ _ | refine Zad ?_ | refine Zaf ?_ _)); refine Za3 (cs := #[.int .i64 0, .int .i64 0, .int .i64 0, .slice none 0 0]) ?_ 0 _ rfl; exact bP b.out) hb); replace HB := mA (Zac (bW) hb); (try clear hb); (try clear hb2); (try clear hk); (try clear hi); (try clear m)))
 go_loopg [9] k (fun kq v9 w' => ∃ (U : Int), v9 = .int .i64 U ∧ Zaa (Zat.l0 kq ai U I A G P T B u v x r = some (r1, r2)) ∧ Zaa (kq ≤ k) ∧ Zaa (Kd.R (Kd.int .i64) 2 w' w.heap.size (fun _ => True) aC ai) ∧ Zaa (Kd.S (Kd.slice 2 (Kd.int .i64)) 22 w' w.heap.size (fun k_ => some k_ ≠ (aC : Value).ownBlock) (.slice X r.length W) r) ∧ Zaa (w'.heap[aj]? = some (.cells #[.int .i64 I, (.slice ad A.length ae)] 32 (0, 0))) ∧ Zaa (w'.heap[q]? = some (.cells #[.int .i64 G, .int .i64 P, .int .i64 T, (.slice ab B.length ac)] 34 (0, 0))) ∧ Zaa (w'.heap[D]? = some (.cells #[.int .i64 u, .int .i64 v, .int .i64 x, (.slice X r.length W)] 34 (0, 0))) ∧ Zaa (Below w.heap.size w w'))
 case atStart => exact ⟨(0), (eW), H', ⟨Nat.le_refl _⟩, ⟨rP bS.out⟩, ⟨by (with_reducible repeat (first | apply yD | apply yE | apply zW)); exact yC al.out (fun _ hk => hk.2)⟩, ⟨bP d.out⟩, ⟨bP a.out⟩, ⟨bP b.out⟩, ⟨bW⟩⟩
 case round =>
  clear H' bn bo aL aM aP aQ aR aS aX aY aZ a0 a5 a6 a7 a8 aN aO aT aU aV aW a1 a2 a3 a4 a9 ba bb bd
  obtain ⟨U, rfl, HA, aw, l, j, d, a, b, HB⟩ := hrel
  cases gk with
  | zero => exact absurd HA.out (by simp [Zat.l0])
  | succ k1 =>
   have H := HA.out
   clear HA
   simp only [Zat.l0] at H
   by_cases ax : U < G; rotate_left
   ·rw [if_neg ax] at H
    have aI := dF ax
    clear ax
    simp only [Option.some.injEq, Prod.mk.injEq] at H
    obtain ⟨rfl, rfl⟩ := H
    have dA := L.out
    have dB := J.out
    have dC := y.out
    have dD := Y.out
    have cD : wr.cell? ⟨q, 0, none⟩ = some (.int .i64 G) := bc a 0
    have cE : wr.cell? ⟨q, 1, none⟩ = some (.int .i64 P) := bc a 1
    have cF : wr.cell? ⟨q, 2, none⟩ = some (.int .i64 T) := bc a 2
    have cG : wr.cell? ⟨q, 3, none⟩ = some (.slice ab B.length ac) := bc a 3
    have cH := Zab a.out 0
    have cI := Zab a.out 1
    have cJ := Zab a.out 2
    have cK := Zab a.out 3
    go_wp2
    go_ret2
    exact ⟨eW, bW⟩
   rw [if_pos ax] at H
   have aI := dT ax
   clear ax
   have H' := mA H
   clear H
   have dE := L.out
   have dG := J.out
   have dH := y.out
   have dI := Y.out
   have bf : wr.cell? ⟨q, 0, none⟩ = some (.int .i64 G) := bc a 0
   have bg : wr.cell? ⟨q, 1, none⟩ = some (.int .i64 P) := bc a 1
   have bh : wr.cell? ⟨q, 2, none⟩ = some (.int .i64 T) := bc a 2
   have bi : wr.cell? ⟨q, 3, none⟩ = some (.slice ab B.length ac) := bc a 3
   have bj := Zab a.out 0
   have bk := Zab a.out 1
   have bl := Zab a.out 2
   have bm := Zab a.out 3
   go_wp2
   go_loopg [10] k1 (fun kq v10 w' => ∃ (z : Int), v10 = .int .i64 z ∧ Zaa (Zat.l1 kq ai U z I A G P T B u v x r = some (r1, r2)) ∧ Zaa (kq ≤ k1) ∧ Zaa (Kd.R (Kd.int .i64) 2 w' w.heap.size (fun _ => True) aC ai) ∧ Zaa (Kd.S (Kd.slice 2 (Kd.int .i64)) 22 w' w.heap.size (fun k_ => some k_ ≠ (aC : Value).ownBlock) (.slice X r.length W) r) ∧ Zaa (w'.heap[aj]? = some (.cells #[.int .i64 I, (.slice ad A.length ae)] 32 (0, 0))) ∧ Zaa (w'.heap[q]? = some (.cells #[.int .i64 G, .int .i64 P, .int .i64 T, (.slice ab B.length ac)] 34 (0, 0))) ∧ Zaa (w'.heap[D]? = some (.cells #[.int .i64 u, .int .i64 v, .int .i64 x, (.slice X r.length W)] 34 (0, 0))) ∧ Zaa (Below w.heap.size w w'))
   case atStart => exact ⟨(wrap64 (U + 1)), (eW), H', ⟨Nat.le_refl _⟩, ⟨rP l.out⟩, ⟨sP j.out⟩, ⟨bP d.out⟩, ⟨bP a.out⟩, ⟨bP b.out⟩, ⟨bW⟩⟩
   case round =>
    clear H' aI bf bg bh bi bj bk bl bm
    obtain ⟨z, rfl, HA, ay, l, j, d, a, b, HB⟩ := hrel
    cases gk with
    | zero => exact absurd HA.out (by simp [Zat.l1])
    | succ k2 =>
     have H := HA.out
     clear HA
     simp only [Zat.l1] at H
     by_cases az : z < G; rotate_left
     ·rw [if_neg az] at H
      have bT := dF az
      clear az
      have H' := mA H
      clear H
      have dJ := L.out
      have dK := J.out
      have dL := y.out
      have dM := Y.out
      have cL : wr.cell? ⟨q, 0, none⟩ = some (.int .i64 G) := bc a 0
      have cM : wr.cell? ⟨q, 1, none⟩ = some (.int .i64 P) := bc a 1
      have cN : wr.cell? ⟨q, 2, none⟩ = some (.int .i64 T) := bc a 2
      have cO : wr.cell? ⟨q, 3, none⟩ = some (.slice ab B.length ac) := bc a 3
      have cQ := Zab a.out 0
      have cR := Zab a.out 1
      have cS := Zab a.out 2
      have cT := Zab a.out 3
      go_wp2
      go_roundg k2
      case measure => have := aw.out; have := ay.out; omega
      case rel => exact ⟨(wrap64 (U + 1)), (eW), H', ⟨by have := aw.out; have := ay.out; omega⟩, ⟨rP l.out⟩, ⟨sP j.out⟩, ⟨bP d.out⟩, ⟨bP a.out⟩, ⟨bP b.out⟩, ⟨bW⟩⟩
     rw [if_pos az] at H
     have bT := dT az
     clear az
     replace H := bE H
     obtain ⟨b3, bp, H⟩ := H
     have bq := mA bp
     clear bp
     by_cases aJ : b3 = true
     ·subst aJ
      rw [if_pos rfl] at H
      have H' := mA H
      clear H
      have dN := L.out
      have dO := J.out
      have dP := y.out
      have dQ := Y.out
      have cU : wr.cell? ⟨q, 0, none⟩ = some (.int .i64 G) := bc a 0
      have cV : wr.cell? ⟨q, 1, none⟩ = some (.int .i64 P) := bc a 1
      have cW : wr.cell? ⟨q, 2, none⟩ = some (.int .i64 T) := bc a 2
      have cX : wr.cell? ⟨q, 3, none⟩ = some (.slice ab B.length ac) := bc a 3
      have cY := Zab a.out 0
      have cZ := Zab a.out 1
      have c0 := Zab a.out 2
      have c1 := Zab a.out 3
      try go_wp2
      replace l := mA (zA l.out)
      replace j := mA (zW j.out)
      replace d := mA (Zad d.out)
      replace a := mA (Zad a.out)
      replace b := mA (Zad b.out)
      replace HB := mA (Za0 HB.out)
      refine Zcq (n := 23) (S := fun w' => w'.cell? ⟨aj, 0, none⟩ = some (.int .i64 I) ∧ w'.cell? ⟨aj, 1, none⟩ = some (.slice ad A.length ae)) (ds := []) #[false, false, false, false, false, false, false, false, false, false, false, false, false, false, false, false, false, false, false, false, false, false, false] (by kernel_rfl) rfl rfl ⟨bc d 0, bc d 1⟩ (fun hHeld => ?_); refine Zb7 Zat.tab12 Zat.bits12 (fun HT_ HW_ => ?_)
      generalize wr.drew = w31 at l j d a b HB hHeld ⊢
      refine Zan (i := 1) (N := some 36) (Zai HT_.out (by kernel_rfl)) ?_
      refine Zan (i := 2) (N := some 37) (Zai HT_.out (by kernel_rfl)) ?_
      refine Za8 (i := 0) (N := some 35) (Zaz HT_.out HW_.out (by kernel_rfl)) hHeld ?_
      refine one_ (i := 3) (N := some 38) #[true, true, true, true, false, false, false, false, false, false, false, false, false, false, false, false, false, false, false, false, false, false, false] rfl rfl (Za9 HT_.out (by kernel_rfl)) (by decide) (fun K hK => ?_)
      refine Zb6 Tryd.func28 (by kernel_rfl) rfl #[.agg #[.int .i64 I, .slice ad A.length ae], .int .i64 U, .int .i64 z] (by rfl) rfl rfl (by (try simp only [List.map_toArray, List.map_cons, List.map_nil]); first | done | rfl | (simp only [List.length_drop, List.length_take]; rfl)) ?_
      with_reducible refine (Zdk.calls I _ _ A U z true _ ?side1 ?side2 bq.out).mono ?_
      (case side1 => exact cP (zF ao.out HB.out))
      (case side2 => exact ap.out)
      rintro e ec ⟨rfl, hb⟩
      refine ⟨_, rfl, ?_⟩
      replace l := mA (zK (rP l.out) hb)
      replace j := mA (yQ (sP j.out) hb)
      replace d := mA (blkB d.out hb)
      replace a := mA (blkB a.out hb)
      replace b := mA (blkB b.out hb)
      replace HB := mA (Zac (bW) hb)
      (try clear hb)
      (try clear hb2)
      (try clear hk)
      (try clear hi)
      refine hK.out _ _ ⟨bc d 0, bc d 1⟩ (fun hHeld => ?_)
      clear hK K
      refine putS 38 ?_
      refine Zan (i := 4) (N := some 39) (Zai HT_.out (by kernel_rfl)) ?_
      refine Zan (i := 5) (N := some 40) (Zai HT_.out (by kernel_rfl)) ?_
      refine Zby (i := 6) (N := some 41) (Zai HT_.out (by kernel_rfl)) ?_
      refine Zby (i := 7) (N := some 42) (Zai HT_.out (by kernel_rfl)) ?_
      refine Zby (i := 8) (N := some 43) (Zai HT_.out (by kernel_rfl)) ?_
      refine Zby (i := 9) (N := some 44) (Zai HT_.out (by kernel_rfl)) ?_
      refine Zby (i := 10) (N := some 45) (Zai HT_.out (by kernel_rfl)) ?_
      refine Zby (i := 11) (N := some 46) (Zai HT_.out (by kernel_rfl)) ?_
      refine Zby (i := 12) (N := some 47) (Zai HT_.out (by kernel_rfl)) ?_
      refine Zby (i := 13) (N := some 48) (Zai HT_.out (by kernel_rfl)) ?_
      refine Zby (i := 14) (N := some 49) (Zai HT_.out (by kernel_rfl)) ?_
      refine Zby (i := 15) (N := some 50) (Zai HT_.out (by kernel_rfl)) ?_
      refine Zby (i := 16) (N := some 51) (Zai HT_.out (by kernel_rfl)) ?_
      refine Zby (i := 17) (N := some 52) (Zai HT_.out (by kernel_rfl)) ?_
      refine Zby (i := 18) (N := some 53) (Zai HT_.out (by kernel_rfl)) ?_
      refine Zby (i := 19) (N := some 54) (Zai HT_.out (by kernel_rfl)) ?_
      refine Zby (i := 20) (N := some 55) (Zai HT_.out (by kernel_rfl)) ?_
      refine Zby (i := 21) (N := some 56) (Zai HT_.out (by kernel_rfl)) ?_
      refine Zan (i := 22) (N := some 57) (Zai HT_.out (by kernel_rfl)) ?_
      refine Zcz (Zct HT_.out (by kernel_rfl)) ?_
      try go_wp2
      go_roundg k2
      case measure => have := aw.out; have := ay.out; omega
      case rel => exact ⟨(wrap64 (z + 1)), (eW), H', ⟨by have := aw.out; have := ay.out; omega⟩, ⟨rP l.out⟩, ⟨sP j.out⟩, ⟨bP d.out⟩, ⟨bP a.out⟩, ⟨bP b.out⟩, ⟨bW⟩⟩
     replace aJ := Bool.eq_false_iff.mpr aJ
     subst aJ
     rw [iF] at H
     replace H := bE H
     obtain ⟨aq, br, H⟩ := H
     have bX := mA br
     clear br
     replace H := bE H
     obtain ⟨ar, bs, H⟩ := H
     have bY := mA bs
     clear bs
     replace H := bE H
     obtain ⟨au, bu, H⟩ := H
     have bZ := mA bu
     clear bu
     replace H := bE H
     obtain ⟨av, bv, H⟩ := H
     have b0 := mA bv
     clear bv
     replace H := bE H
     obtain ⟨b4, bw, H⟩ := H
     have b1 := mA bw
     clear bw
     by_cases aK : b4 = true; rotate_left
     ·replace aK := Bool.eq_false_iff.mpr aK
      subst aK
      rw [iF] at H
      simp only [Option.some.injEq, Prod.mk.injEq] at H
      obtain ⟨rfl, rfl⟩ := H
      have dR := L.out
      have dS := J.out
      have dU := y.out
      have dV := Y.out
      have da : wr.cell? ⟨q, 0, none⟩ = some (.int .i64 G) := bc a 0
      have db : wr.cell? ⟨q, 1, none⟩ = some (.int .i64 P) := bc a 1
      have dc : wr.cell? ⟨q, 2, none⟩ = some (.int .i64 T) := bc a 2
      have dd : wr.cell? ⟨q, 3, none⟩ = some (.slice ab B.length ac) := bc a 3
      have de := Zab a.out 0
      have df := Zab a.out 1
      have dg := Zab a.out 2
      have dh := Zab a.out 3
      try go_wp2
      replace l := mA (zA l.out)
      replace j := mA (zW j.out)
      replace d := mA (Zad d.out)
      replace a := mA (Zad a.out)
      replace b := mA (Zad b.out)
      replace HB := mA (Za0 HB.out)
      refine Zcq (n := 23) (S := fun w' => w'.cell? ⟨aj, 0, none⟩ = some (.int .i64 I) ∧ w'.cell? ⟨aj, 1, none⟩ = some (.slice ad A.length ae) ∧ w'.cell? ⟨D, 0, none⟩ = some (.int .i64 u) ∧ w'.cell? ⟨D, 1, none⟩ = some (.int .i64 v) ∧ w'.cell? ⟨D, 2, none⟩ = some (.int .i64 x) ∧ w'.cell? ⟨D, 3, none⟩ = some (.slice X r.length W)) (ds := []) #[false, false, false, false, false, false, false, false, false, false, false, false, false, false, false, false, false, false, false, false, false, false, false] (by kernel_rfl) rfl rfl ⟨bc d 0, bc d 1, bc b 0, bc b 1, bc b 2, bc b 3⟩ (fun hHeld => ?_); refine Zb7 Zat.tab12 Zat.bits12 (fun HT_ HW_ => ?_)
      generalize wr.drew = w56 at l j d a b HB hHeld ⊢
      refine Zan (i := 1) (N := some 36) (Zai HT_.out (by kernel_rfl)) ?_
      refine Zan (i := 2) (N := some 37) (Zai HT_.out (by kernel_rfl)) ?_
      refine Za8 (i := 0) (N := some 35) (Zaz HT_.out HW_.out (by kernel_rfl)) hHeld ?_
      refine one_ (i := 3) (N := some 38) #[true, true, true, true, false, false, false, false, false, false, false, false, false, false, false, false, false, false, false, false, false, false, false] rfl rfl (Za9 HT_.out (by kernel_rfl)) (by decide) (fun K hK => ?_)
      refine Zb6 Tryd.func28 (by kernel_rfl) rfl #[.agg #[.int .i64 I, .slice ad A.length ae], .int .i64 U, .int .i64 z] (by rfl) rfl rfl (by (try simp only [List.map_toArray, List.map_cons, List.map_nil]); first | done | rfl | (simp only [List.length_drop, List.length_take]; rfl)) ?_
      with_reducible refine (Zdk.calls I _ _ A U z false _ ?side1 ?side2 bq.out).mono ?_
      (case side1 => exact cP (zF ao.out HB.out))
      (case side2 => exact ap.out)
      rintro e ed ⟨rfl, hb⟩
      refine ⟨_, rfl, ?_⟩
      replace l := mA (zK (rP l.out) hb)
      replace j := mA (yQ (sP j.out) hb)
      replace d := mA (blkB d.out hb)
      replace a := mA (blkB a.out hb)
      replace b := mA (blkB b.out hb)
      replace HB := mA (Zac (bW) hb)
      (try clear hb)
      (try clear hb2)
      (try clear hk)
      (try clear hi)
      obtain ⟨bx, bz, bA⟩ := zJ l.out
      (first | subst bA | (injection bA with M af O; have ag := M.symm; have ah := O.symm; clear M af O; subst ag; subst ah))
      refine hK.out _ _ ⟨bc d 0, bc d 1, bc b 0, bc b 1, bc b 2, bc b 3⟩ (fun hHeld => ?_)
      clear hK K
      refine putS 38 ?_
      refine Zan (i := 4) (N := some 39) (Zai HT_.out (by kernel_rfl)) ?_
      refine Zan (i := 5) (N := some 40) (Zai HT_.out (by kernel_rfl)) ?_
      refine Zan (i := 8) (N := some 43) (Zai HT_.out (by kernel_rfl)) ?_
      refine Zan (i := 9) (N := some 44) (Zai HT_.out (by kernel_rfl)) ?_
      refine Zan (i := 11) (N := some 46) (Zai HT_.out (by kernel_rfl)) ?_
      refine Zan (i := 15) (N := some 50) (Zai HT_.out (by kernel_rfl)) ?_
      refine Zan (i := 16) (N := some 51) (Zai HT_.out (by kernel_rfl)) ?_
      refine Zan (i := 18) (N := some 53) (Zai HT_.out (by kernel_rfl)) ?_
      refine Za8 (i := 6) (N := some 41) (Zaz HT_.out HW_.out (by kernel_rfl)) hHeld ?_
      refine Za8 (i := 7) (N := some 42) (Zaz HT_.out HW_.out (by kernel_rfl)) hHeld ?_
      refine Za8 (i := 13) (N := some 48) (Zaz HT_.out HW_.out (by kernel_rfl)) hHeld ?_
      refine Za8 (i := 14) (N := some 49) (Zaz HT_.out HW_.out (by kernel_rfl)) hHeld ?_
      refine one_ (i := 10) (N := some 45) #[true, true, true, true, true, true, true, true, true, true, true, true, false, true, true, true, true, false, true, false, false, false, false] rfl rfl (Za9 HT_.out (by kernel_rfl)) (by decide) (fun K hK => ?_)
      refine Zb6 Tryd.func30 (by kernel_rfl) rfl #[.agg #[.int .i64 u, .int .i64 v, .int .i64 x, .slice X r.length W], .slice bx ai.length bz, .int .i64 U] (by rfl) rfl rfl (by (try simp only [List.map_toArray, List.map_cons, List.map_nil]); first | done | rfl | (simp only [List.length_drop, List.length_take]; rfl)) ?_
      with_reducible refine (Zbg.calls k2 u v x _ _ r _ _ ai U aq _ ?side1 ?side2 ?side3 ?side4 bX.out).mono ?_
      (case side1 => exact cP ((yL j.out).2.2))
      (case side2 => exact (yL j.out).2.1)
      (case side3 => exact cP ((zE l.out).2.2))
      (case side4 => exact (zE l.out).2.1)
      rintro e ee ⟨b5, rfl, m, hb⟩
      refine ⟨_, rfl, ?_⟩
      replace j := mA (xB (sP j.out) (zH m) hb)
      have s := mA (zP (zS m (zG (rP l.out))) (Zag (bW)))
      replace l := mA (zR (rP l.out) (zH m) hb)
      replace d := mA (blkB d.out hb)
      replace a := mA (blkB a.out hb)
      replace b := mA (blkB b.out hb)
      replace HB := mA (Zac (bW) hb)
      (try clear hb)
      (try clear hb2)
      (try clear hk)
      (try clear hi)
      (try clear m)
      obtain ⟨b6, b7, bB⟩ := zJ s.out
      (first | subst bB | (injection bB with M af O; have ag := M.symm; have ah := O.symm; clear M af O; subst ag; subst ah))
      refine hK.out _ _ ⟨bc d 0, bc d 1, bc b 0, bc b 1, bc b 2, bc b 3⟩ (fun hHeld => ?_)
      clear hK K
      refine putS 45 ?_
      refine one_ (i := 12) (N := some 47) #[true, true, true, true, true, true, true, true, true, true, true, true, true, true, true, true, true, false, true, false, false, false, false] rfl rfl (Za9 HT_.out (by kernel_rfl)) (by decide) (fun K hK => ?_)
      refine Zb6 Tryd.func30 (by kernel_rfl) rfl #[.agg #[.int .i64 u, .int .i64 v, .int .i64 x, .slice X r.length W], .slice b6 aq.length b7, .int .i64 z] (by rfl) rfl rfl (by (try simp only [List.map_toArray, List.map_cons, List.map_nil]); first | done | rfl | (simp only [List.length_drop, List.length_take]; rfl)) ?_
      with_reducible refine (Zbg.calls k2 u v x _ _ r _ _ aq z ar _ ?side1 ?side2 ?side3 ?side4 bY.out).mono ?_
      (case side1 => exact cP ((yL j.out).2.2))
      (case side2 => exact (yL j.out).2.1)
      (case side3 => exact cP ((zE s.out).2.2))
      (case side4 => exact (zE s.out).2.1)
      rintro e ef ⟨b8, rfl, m, hb⟩
      refine ⟨_, rfl, ?_⟩
      replace j := mA (xB (sP j.out) (zH m) hb)
      have E := mA (zP (zS (zS m (zG (rP l.out))) (zG (rP s.out))) (Zag (bW)))
      replace l := mA (zR (rP l.out) (zH m) hb)
      replace s := mA (zR (rP s.out) (zH m) hb)
      replace d := mA (blkB d.out hb)
      replace a := mA (blkB a.out hb)
      replace b := mA (blkB b.out hb)
      replace HB := mA (Zac (bW) hb)
      (try clear hb)
      (try clear hb2)
      (try clear hk)
      (try clear hi)
      (try clear m)
      refine hK.out _ _ ⟨bc d 0, bc d 1, bc b 0, bc b 1, bc b 2, bc b 3⟩ (fun hHeld => ?_)
      clear hK K
      refine putS 47 ?_
      refine one_ (i := 17) (N := some 52) #[true, true, true, true, true, true, true, true, true, true, true, true, true, true, true, true, true, true, true, false, false, false, false] rfl rfl (Za9 HT_.out (by kernel_rfl)) (by decide) (fun K hK => ?_)
      refine Zb6 Tryd.func30 (by kernel_rfl) rfl #[.agg #[.int .i64 u, .int .i64 v, .int .i64 x, .slice X r.length W], .slice bx ai.length bz, .int .i64 z] (by rfl) rfl rfl (by (try simp only [List.map_toArray, List.map_cons, List.map_nil]); first | done | rfl | (simp only [List.length_drop, List.length_take]; rfl)) ?_
      with_reducible refine (Zbg.calls k2 u v x _ _ r _ _ ai z au _ ?side1 ?side2 ?side3 ?side4 bZ.out).mono ?_
      (case side1 => exact cP ((yL j.out).2.2))
      (case side2 => exact (yL j.out).2.1)
      (case side3 => exact cP ((zE l.out).2.2))
      (case side4 => exact (zE l.out).2.1)
      rintro e eg ⟨b9, rfl, m, hb⟩
      refine ⟨_, rfl, ?_⟩
      replace j := mA (xB (sP j.out) (zH m) hb)
      have aa := mA (zP (zS (zS (zS m (zG (rP l.out))) (zG (rP s.out))) (zG (rP E.out))) (Zag (bW)))
      replace l := mA (zR (rP l.out) (zH m) hb)
      replace s := mA (zR (rP s.out) (zH m) hb)
      replace E := mA (zR (rP E.out) (zH m) hb)
      replace d := mA (blkB d.out hb)
      replace a := mA (blkB a.out hb)
      replace b := mA (blkB b.out hb)
      replace HB := mA (Zac (bW) hb)
      (try clear hb)
      (try clear hb2)
      (try clear hk)
      (try clear hi)
      (try clear m)
      obtain ⟨ca, cb, bC⟩ := zJ aa.out
      (first | subst bC | (injection bC with M af O; have ag := M.symm; have ah := O.symm; clear M af O; subst ag; subst ah))
      refine hK.out _ _ ⟨bc d 0, bc d 1, bc b 0, bc b 1, bc b 2, bc b 3⟩ (fun hHeld => ?_)
      clear hK K
      refine putS 52 ?_
      refine one_ (i := 19) (N := some 54) #[true, true, true, true, true, true, true, true, true, true, true, true, true, true, true, true, true, true, true, true, false, false, false] rfl rfl (Za9 HT_.out (by kernel_rfl)) (by decide) (fun K hK => ?_)
      refine Zb6 Tryd.func30 (by kernel_rfl) rfl #[.agg #[.int .i64 u, .int .i64 v, .int .i64 x, .slice X r.length W], .slice ca au.length cb, .int .i64 U] (by rfl) rfl rfl (by (try simp only [List.map_toArray, List.map_cons, List.map_nil]); first | done | rfl | (simp only [List.length_drop, List.length_take]; rfl)) ?_
      with_reducible refine (Zbg.calls k2 u v x _ _ r _ _ au U av _ ?side1 ?side2 ?side3 ?side4 b0.out).mono ?_
      (case side1 => exact cP ((yL j.out).2.2))
      (case side2 => exact (yL j.out).2.1)
      (case side3 => exact cP ((zE aa.out).2.2))
      (case side4 => exact (zE aa.out).2.1)
      rintro e w64 ⟨cc, rfl, m, hb⟩
      refine ⟨_, rfl, ?_⟩
      replace j := mA (xB (sP j.out) (zH m) hb)
      have am := mA (zP (zS (zS (zS (zS m (zG (rP l.out))) (zG (rP s.out))) (zG (rP E.out))) (zG (rP aa.out))) (Zag (bW)))
      replace l := mA (zR (rP l.out) (zH m) hb)
      replace s := mA (zR (rP s.out) (zH m) hb)
      replace E := mA (zR (rP E.out) (zH m) hb)
      replace aa := mA (zR (rP aa.out) (zH m) hb)
      replace d := mA (blkB d.out hb)
      replace a := mA (blkB a.out hb)
      replace b := mA (blkB b.out hb)
      replace HB := mA (Zac (bW) hb)
      (try clear hb)
      (try clear hb2)
      (try clear hk)
      (try clear hi)
      (try clear m)
      obtain ⟨cd, ce, bD⟩ := zJ E.out
      (first | subst bD | (injection bD with M af O; have ag := M.symm; have ah := O.symm; clear M af O; subst ag; subst ah))
      obtain ⟨cf, cg, bF⟩ := zJ am.out
      (first | subst bF | (injection bF with M af O; have ag := M.symm; have ah := O.symm; clear M af O; subst ag; subst ah))
      refine hK.out _ _ ⟨bc d 0, bc d 1, bc b 0, bc b 1, bc b 2, bc b 3⟩ (fun hHeld => ?_)
      clear hK K
      refine putS 54 ?_
      refine one_ (i := 20) (N := some 55) #[true, true, true, true, true, true, true, true, true, true, true, true, true, true, true, true, true, true, true, true, true, false, false] rfl rfl (Za9 HT_.out (by kernel_rfl)) (by decide) (fun K hK => ?_)
      refine Zb6 Tryd.func29 (by kernel_rfl) rfl #[.slice cd ar.length ce, .slice cf av.length cg] (by rfl) rfl rfl (by (try simp only [List.map_toArray, List.map_cons, List.map_nil]); first | done | rfl | (simp only [List.length_drop, List.length_take]; rfl)) ?_
      with_reducible refine (Zb9.calls k2 _ _ ar _ _ av false _ ?side1 ?side2 ?side3 ?side4 b1.out).mono ?_
      (case side1 => exact cP ((zE E.out).2.2))
      (case side2 => exact (zE E.out).2.1)
      (case side3 => exact cP ((zE am.out).2.2))
      (case side4 => exact (zE am.out).2.1)
      rintro e w' ⟨rfl, ⟨nd, rfl⟩⟩
      refine ⟨_, rfl, ?_⟩
      refine hK.out _ _ ⟨bc d 0, bc d 1, bc b 0, bc b 1, bc b 2, bc b 3⟩ (fun hHeld => ?_)
      clear hK K
      refine putS 55 ?_
      refine Zan (i := 21) (N := some 56) (Zai HT_.out (by kernel_rfl)) ?_
      refine Zan (i := 22) (N := some 57) (Zai HT_.out (by kernel_rfl)) ?_
      refine Zcz (Zct HT_.out (by kernel_rfl)) ?_
      try go_wp2
      go_ret2
      exact ⟨eW, bW⟩
     subst aK
     rw [if_pos rfl] at H
     have H' := mA H
     clear H
     have dW := L.out
     have dX := J.out
     have dY := y.out
     have dZ := Y.out
     have di : wr.cell? ⟨q, 0, none⟩ = some (.int .i64 G) := bc a 0
     have dj : wr.cell? ⟨q, 1, none⟩ = some (.int .i64 P) := bc a 1
     have dk : wr.cell? ⟨q, 2, none⟩ = some (.int .i64 T) := bc a 2
     have dl : wr.cell? ⟨q, 3, none⟩ = some (.slice ab B.length ac) := bc a 3
     have dm := Zab a.out 0
     have dn := Zab a.out 1
     have dp := Zab a.out 2
     have dq := Zab a.out 3
     try go_wp2
     replace l := mA (zA l.out)
     replace j := mA (zW j.out)
     replace d := mA (Zad d.out)
     replace a := mA (Zad a.out)
     replace b := mA (Zad b.out)
     replace HB := mA (Za0 HB.out)
     refine Zcq (n := 23) (S := fun w' => w'.cell? ⟨aj, 0, none⟩ = some (.int .i64 I) ∧ w'.cell? ⟨aj, 1, none⟩ = some (.slice ad A.length ae) ∧ w'.cell? ⟨D, 0, none⟩ = some (.int .i64 u) ∧ w'.cell? ⟨D, 1, none⟩ = some (.int .i64 v) ∧ w'.cell? ⟨D, 2, none⟩ = some (.int .i64 x) ∧ w'.cell? ⟨D, 3, none⟩ = some (.slice X r.length W)) (ds := []) #[false, false, false, false, false, false, false, false, false, false, false, false, false, false, false, false, false, false, false, false, false, false, false] (by kernel_rfl) rfl rfl ⟨bc d 0, bc d 1, bc b 0, bc b 1, bc b 2, bc b 3⟩ (fun hHeld => ?_); refine Zb7 Zat.tab12 Zat.bits12 (fun HT_ HW_ => ?_)
     generalize wr.drew = w42 at l j d a b HB hHeld ⊢
     refine Zan (i := 1) (N := some 36) (Zai HT_.out (by kernel_rfl)) ?_
     refine Zan (i := 2) (N := some 37) (Zai HT_.out (by kernel_rfl)) ?_
     refine Za8 (i := 0) (N := some 35) (Zaz HT_.out HW_.out (by kernel_rfl)) hHeld ?_
     refine one_ (i := 3) (N := some 38) #[true, true, true, true, false, false, false, false, false, false, false, false, false, false, false, false, false, false, false, false, false, false, false] rfl rfl (Za9 HT_.out (by kernel_rfl)) (by decide) (fun K hK => ?_)
     refine Zb6 Tryd.func28 (by kernel_rfl) rfl #[.agg #[.int .i64 I, .slice ad A.length ae], .int .i64 U, .int .i64 z] (by rfl) rfl rfl (by (try simp only [List.map_toArray, List.map_cons, List.map_nil]); first | done | rfl | (simp only [List.length_drop, List.length_take]; rfl)) ?_
     with_reducible refine (Zdk.calls I _ _ A U z false _ ?side1 ?side2 bq.out).mono ?_
     (case side1 => exact cP (zF ao.out HB.out))
     (case side2 => exact ap.out)
     rintro e eh ⟨rfl, hb⟩
     refine ⟨_, rfl, ?_⟩
     replace l := mA (zK (rP l.out) hb)
     replace j := mA (yQ (sP j.out) hb)
     replace d := mA (blkB d.out hb)
     replace a := mA (blkB a.out hb)
     replace b := mA (blkB b.out hb)
     replace HB := mA (Zac (bW) hb)
     (try clear hb)
     (try clear hb2)
     (try clear hk)
     (try clear hi)
     obtain ⟨bG, bH, bI⟩ := zJ l.out
     (first | subst bI | (injection bI with M af O; have ag := M.symm; have ah := O.symm; clear M af O; subst ag; subst ah))
     refine hK.out _ _ ⟨bc d 0, bc d 1, bc b 0, bc b 1, bc b 2, bc b 3⟩ (fun hHeld => ?_)
     clear hK K
     refine putS 38 ?_
     refine Zan (i := 4) (N := some 39) (Zai HT_.out (by kernel_rfl)) ?_
     refine Zan (i := 5) (N := some 40) (Zai HT_.out (by kernel_rfl)) ?_
     refine Zan (i := 8) (N := some 43) (Zai HT_.out (by kernel_rfl)) ?_
     refine Zan (i := 9) (N := some 44) (Zai HT_.out (by kernel_rfl)) ?_
     refine Zan (i := 11) (N := some 46) (Zai HT_.out (by kernel_rfl)) ?_
     refine Zan (i := 15) (N := some 50) (Zai HT_.out (by kernel_rfl)) ?_
     refine Zan (i := 16) (N := some 51) (Zai HT_.out (by kernel_rfl)) ?_
     refine Zan (i := 18) (N := some 53) (Zai HT_.out (by kernel_rfl)) ?_
     refine Za8 (i := 6) (N := some 41) (Zaz HT_.out HW_.out (by kernel_rfl)) hHeld ?_
     refine Za8 (i := 7) (N := some 42) (Zaz HT_.out HW_.out (by kernel_rfl)) hHeld ?_
     refine Za8 (i := 13) (N := some 48) (Zaz HT_.out HW_.out (by kernel_rfl)) hHeld ?_
     refine Za8 (i := 14) (N := some 49) (Zaz HT_.out HW_.out (by kernel_rfl)) hHeld ?_
     refine one_ (i := 10) (N := some 45) #[true, true, true, true, true, true, true, true, true, true, true, true, false, true, true, true, true, false, true, false, false, false, false] rfl rfl (Za9 HT_.out (by kernel_rfl)) (by decide) (fun K hK => ?_)
     refine Zb6 Tryd.func30 (by kernel_rfl) rfl #[.agg #[.int .i64 u, .int .i64 v, .int .i64 x, .slice X r.length W], .slice bG ai.length bH, .int .i64 U] (by rfl) rfl rfl (by (try simp only [List.map_toArray, List.map_cons, List.map_nil]); first | done | rfl | (simp only [List.length_drop, List.length_take]; rfl)) ?_
     with_reducible refine (Zbg.calls k2 u v x _ _ r _ _ ai U aq _ ?side1 ?side2 ?side3 ?side4 bX.out).mono ?_
     (case side1 => exact cP ((yL j.out).2.2))
     (case side2 => exact (yL j.out).2.1)
     (case side3 => exact cP ((zE l.out).2.2))
     (case side4 => exact (zE l.out).2.1)
     rintro e ei ⟨b5, rfl, m, hb⟩
     refine ⟨_, rfl, ?_⟩
     replace j := mA (xB (sP j.out) (zH m) hb)
     have s := mA (zP (zS m (zG (rP l.out))) (Zag (bW)))
     replace l := mA (zR (rP l.out) (zH m) hb)
     replace d := mA (blkB d.out hb)
     replace a := mA (blkB a.out hb)
     replace b := mA (blkB b.out hb)
     replace HB := mA (Zac (bW) hb)
     (try clear hb)
     (try clear hb2)
     (try clear hk)
     (try clear hi)
     (try clear m)
     obtain ⟨ch, ci, bJ⟩ := zJ s.out
     (first | subst bJ | (injection bJ with M af O; have ag := M.symm; have ah := O.symm; clear M af O; subst ag; subst ah))
     refine hK.out _ _ ⟨bc d 0, bc d 1, bc b 0, bc b 1, bc b 2, bc b 3⟩ (fun hHeld => ?_)
     clear hK K
     refine putS 45 ?_
     refine one_ (i := 12) (N := some 47) #[true, true, true, true, true, true, true, true, true, true, true, true, true, true, true, true, true, false, true, false, false, false, false] rfl rfl (Za9 HT_.out (by kernel_rfl)) (by decide) (fun K hK => ?_)
     refine Zb6 Tryd.func30 (by kernel_rfl) rfl #[.agg #[.int .i64 u, .int .i64 v, .int .i64 x, .slice X r.length W], .slice ch aq.length ci, .int .i64 z] (by rfl) rfl rfl (by (try simp only [List.map_toArray, List.map_cons, List.map_nil]); first | done | rfl | (simp only [List.length_drop, List.length_take]; rfl)) ?_
     with_reducible refine (Zbg.calls k2 u v x _ _ r _ _ aq z ar _ ?side1 ?side2 ?side3 ?side4 bY.out).mono ?_
     (case side1 => exact cP ((yL j.out).2.2))
     (case side2 => exact (yL j.out).2.1)
     (case side3 => exact cP ((zE s.out).2.2))
     (case side4 => exact (zE s.out).2.1)
     rintro e ej ⟨b8, rfl, m, hb⟩
     refine ⟨_, rfl, ?_⟩
     replace j := mA (xB (sP j.out) (zH m) hb)
     have E := mA (zP (zS (zS m (zG (rP l.out))) (zG (rP s.out))) (Zag (bW)))
     replace l := mA (zR (rP l.out) (zH m) hb)
     replace s := mA (zR (rP s.out) (zH m) hb)
     replace d := mA (blkB d.out hb)
     replace a := mA (blkB a.out hb)
     replace b := mA (blkB b.out hb)
     replace HB := mA (Zac (bW) hb)
     (try clear hb)
     (try clear hb2)
     (try clear hk)
     (try clear hi)
     (try clear m)
     refine hK.out _ _ ⟨bc d 0, bc d 1, bc b 0, bc b 1, bc b 2, bc b 3⟩ (fun hHeld => ?_)
     clear hK K
     refine putS 47 ?_
     refine one_ (i := 17) (N := some 52) #[true, true, true, true, true, true, true, true, true, true, true, true, true, true, true, true, true, true, true, false, false, false, false] rfl rfl (Za9 HT_.out (by kernel_rfl)) (by decide) (fun K hK => ?_)
     refine Zb6 Tryd.func30 (by kernel_rfl) rfl #[.agg #[.int .i64 u, .int .i64 v, .int .i64 x, .slice X r.length W], .slice bG ai.length bH, .int .i64 z] (by rfl) rfl rfl (by (try simp only [List.map_toArray, List.map_cons, List.map_nil]); first | done | rfl | (simp only [List.length_drop, List.length_take]; rfl)) ?_
     with_reducible refine (Zbg.calls k2 u v x _ _ r _ _ ai z au _ ?side1 ?side2 ?side3 ?side4 bZ.out).mono ?_
     (case side1 => exact cP ((yL j.out).2.2))
     (case side2 => exact (yL j.out).2.1)
     (case side3 => exact cP ((zE l.out).2.2))
     (case side4 => exact (zE l.out).2.1)
     rintro e ek ⟨b9, rfl, m, hb⟩
     refine ⟨_, rfl, ?_⟩
     replace j := mA (xB (sP j.out) (zH m) hb)
     have aa := mA (zP (zS (zS (zS m (zG (rP l.out))) (zG (rP s.out))) (zG (rP E.out))) (Zag (bW)))
     replace l := mA (zR (rP l.out) (zH m) hb)
     replace s := mA (zR (rP s.out) (zH m) hb)
     replace E := mA (zR (rP E.out) (zH m) hb)
     replace d := mA (blkB d.out hb)
     replace a := mA (blkB a.out hb)
     replace b := mA (blkB b.out hb)
     replace HB := mA (Zac (bW) hb)
     (try clear hb)
     (try clear hb2)
     (try clear hk)
     (try clear hi)
     (try clear m)
     obtain ⟨cj, ck, bK⟩ := zJ aa.out
     (first | subst bK | (injection bK with M af O; have ag := M.symm; have ah := O.symm; clear M af O; subst ag; subst ah))
     refine hK.out _ _ ⟨bc d 0, bc d 1, bc b 0, bc b 1, bc b 2, bc b 3⟩ (fun hHeld => ?_)
     clear hK K
     refine putS 52 ?_
     refine one_ (i := 19) (N := some 54) #[true, true, true, true, true, true, true, true, true, true, true, true, true, true, true, true, true, true, true, true, false, false, false] rfl rfl (Za9 HT_.out (by kernel_rfl)) (by decide) (fun K hK => ?_)
     refine Zb6 Tryd.func30 (by kernel_rfl) rfl #[.agg #[.int .i64 u, .int .i64 v, .int .i64 x, .slice X r.length W], .slice cj au.length ck, .int .i64 U] (by rfl) rfl rfl (by (try simp only [List.map_toArray, List.map_cons, List.map_nil]); first | done | rfl | (simp only [List.length_drop, List.length_take]; rfl)) ?_
     with_reducible refine (Zbg.calls k2 u v x _ _ r _ _ au U av _ ?side1 ?side2 ?side3 ?side4 b0.out).mono ?_
     (case side1 => exact cP ((yL j.out).2.2))
     (case side2 => exact (yL j.out).2.1)
     (case side3 => exact cP ((zE aa.out).2.2))
     (case side4 => exact (zE aa.out).2.1)
     rintro e el ⟨cc, rfl, m, hb⟩
     refine ⟨_, rfl, ?_⟩
     replace j := mA (xB (sP j.out) (zH m) hb)
     have am := mA (zP (zS (zS (zS (zS m (zG (rP l.out))) (zG (rP s.out))) (zG (rP E.out))) (zG (rP aa.out))) (Zag (bW)))
     replace l := mA (zR (rP l.out) (zH m) hb)
     replace s := mA (zR (rP s.out) (zH m) hb)
     replace E := mA (zR (rP E.out) (zH m) hb)
     replace aa := mA (zR (rP aa.out) (zH m) hb)
     replace d := mA (blkB d.out hb)
     replace a := mA (blkB a.out hb)
     replace b := mA (blkB b.out hb)
     replace HB := mA (Zac (bW) hb)
     (try clear hb)
     (try clear hb2)
     (try clear hk)
     (try clear hi)
     (try clear m)
     obtain ⟨cm, cn, bL⟩ := zJ E.out
     (first | subst bL | (injection bL with M af O; have ag := M.symm; have ah := O.symm; clear M af O; subst ag; subst ah))
     obtain ⟨co, cp, bM⟩ := zJ am.out
     (first | subst bM | (injection bM with M af O; have ag := M.symm; have ah := O.symm; clear M af O; subst ag; subst ah))
     refine hK.out _ _ ⟨bc d 0, bc d 1, bc b 0, bc b 1, bc b 2, bc b 3⟩ (fun hHeld => ?_)
     clear hK K
     refine putS 54 ?_
     refine one_ (i := 20) (N := some 55) #[true, true, true, true, true, true, true, true, true, true, true, true, true, true, true, true, true, true, true, true, true, false, false] rfl rfl (Za9 HT_.out (by kernel_rfl)) (by decide) (fun K hK => ?_)
     refine Zb6 Tryd.func29 (by kernel_rfl) rfl #[.slice cm ar.length cn, .slice co av.length cp] (by rfl) rfl rfl (by (try simp only [List.map_toArray, List.map_cons, List.map_nil]); first | done | rfl | (simp only [List.length_drop, List.length_take]; rfl)) ?_
     with_reducible refine (Zb9.calls k2 _ _ ar _ _ av true _ ?side1 ?side2 ?side3 ?side4 b1.out).mono ?_
     (case side1 => exact cP ((zE E.out).2.2))
     (case side2 => exact (zE E.out).2.1)
     (case side3 => exact cP ((zE am.out).2.2))
     (case side4 => exact (zE am.out).2.1)
     rintro e w' ⟨rfl, ⟨nd, rfl⟩⟩
     refine ⟨_, rfl, ?_⟩
     refine hK.out _ _ ⟨bc d 0, bc d 1, bc b 0, bc b 1, bc b 2, bc b 3⟩ (fun hHeld => ?_)
     clear hK K
     refine putS 55 ?_
     refine Zan (i := 21) (N := some 56) (Zai HT_.out (by kernel_rfl)) ?_
     refine Zan (i := 22) (N := some 57) (Zai HT_.out (by kernel_rfl)) ?_
     refine Zcz (Zct HT_.out (by kernel_rfl)) ?_
     try go_wp2
     go_roundg k2
     case measure => have := aw.out; have := ay.out; omega
     case rel => exact ⟨(wrap64 (z + 1)), (eW), H', ⟨by have := aw.out; have := ay.out; omega⟩, ⟨by (with_reducible repeat (first | apply zC | apply zD | apply zA)); exact zB l.out (fun _ hk => trivial)⟩, ⟨by (with_reducible repeat (first | apply yD | apply yE | apply zW)); exact yC j.out (fun _ hk => hk.1.1.1.1)⟩, ⟨bP d.out⟩, ⟨bP a.out⟩, ⟨bP b.out⟩, ⟨bW⟩⟩
end Go.Proofs.YtgindgodfcfgkaaDoor.P
end M0
