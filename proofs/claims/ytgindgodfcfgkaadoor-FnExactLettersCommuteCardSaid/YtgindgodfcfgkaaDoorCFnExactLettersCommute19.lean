import Derived.Test.YtgindgodfcfgkaaDoorCFnExactLettersCommute18
section M0
namespace Go.Proofs.YtgindgodfcfgkaaDoor.P
open Go.RowKit Go.Proofs.YtgindgodfcfgkaaDoor.Sh Go.Proofs.YtgindgodfcfgkaaDoorW.PrintWords Go.Proofs.YtgindgodfcfgkaaDoorW.PrintLast Go.Proofs.YtgindgodfcfgkaaDoorW.PrintMore
open Kd
attribute [local go_sem] Zcd Zca Zcn Zcm Zb1 Zb2 Zcc Zce   -- for this text's walks alone
set_option linter.unusedVariables false
set_option linter.unusedSimpArgs false
mutual
def Zas.l0 : Nat → List (List Int) → Int → Int → Int → List Int → Option (Bool × Int)
 | 0, _, _, _, _, _ => none
 | k + 1, x7, d, a, b, c => if a < d then (Zas.l1 k x7 a d a a 0 b c) else (some (true, 0))
def Zas.l1 : Nat → List (List Int) → Int → Int → Int → Int → Int → Int → List Int → Option (Bool × Int)
 | 0, _, _, _, _, _, _, _, _ => none
 | k + 1, x7, x8, d, e, g, c, a, b => if c < g then ((Zdj.f a b x8 c).bind fun h => (if h = true then (Zas.l1 k x7 x8 d e g (wrap64 (c + 1)) a b) else (if 0 ≤ x8 then (if x8 < (x7.length : Int) then (if 0 ≤ c then (if c < (x7.length : Int) then ((Zbm.f k (Zae x7 x8) (Zae x7 c)).bind fun i => ((Zbm.f k (Zae x7 c) (Zae x7 x8)).bind fun j => ((Za6.f k i j).bind fun l => (if l = true then (Zas.l1 k x7 x8 d e g (wrap64 (c + 1)) a b) else (some (false, 0)))))) else (none)) else (none)) else (none)) else (none)))) else (Zas.l0 k x7 d (wrap64 (e + 1)) a b)
end
def Zas.f (k : Nat) (c : Int) (d : List Int) (e : Int) (g : Int) (h : Int) (i : List (List Int)) : Option (Bool × Int) := (Zdb.f k c d (([(⟨e, g, h, i⟩ : S34)] : List (S34)))).bind fun j => (if j = 0 then ((Zbe.f k e g h i).bind fun a => ((Zal.f k a.1 a.2.1 a.2.2.1 a.2.2.2).bind fun b => ((Zaw.f k b.1 b.2.1 b.2.2.1 b.2.2.2).bind fun l => (Zas.l0 k l c 0 c d)))) else (some (false, j)))
def Zas.T11 : Bool × List (List Nat × List Nat) := (true, [([], []), ([], []), ([], []), ([0, 1, 2], [0, 1, 2]), ([3], [3]), ([4, 3], [4]), ([5], [5]), ([5], [5]), ([6, 7, 5], [5, 6, 7]), ([8, 5], [5, 8]), ([5], [5]), ([5], [5]), ([10, 11, 5], [5, 10, 11]), ([12, 5], [5, 12]), ([9, 13, 5, 5], [5, 9, 13]), ([5], [5]), ([5], [5]), ([15, 16, 5], [5, 15, 16]), ([17, 5], [5, 17]), ([5], [5]), ([5], [5]), ([19, 20, 5], [5, 19, 20]), ([21, 5], [5, 21]), ([18, 22, 14, 5], [5, 18, 22]), ([14, 23, 23, 5], [5, 14, 23]), ([24, 5], [5, 24]), ([5, 25], [5, 25])])
def Zas.B11 : List Nat := [0, 0, 0, 7, 15, 31, 63, 63, 255, 511, 63, 63, 3135, 7231, 16383, 63, 63, 98367, 229439, 63, 63, 1572927, 3670079, 8388607, 16777215, 33554431, 67108863]
theorem Zas.tab11 : rtab .any (opsOf Tryd.f14 11) = Zas.T11 := by kernel_rfl
theorem Zas.bits11 : Zc0 Zas.T11.2 Zas.B11 = true := by kernel_rfl
set_option maxHeartbeats 8000000 in
set_option maxRecDepth 100000 in
theorem Zas.calls (k : Nat) (G : Int) (X : Option Addr) (Y : Nat) (I : List Int) (T : Int) (U : Int) (W : Int) (O : Nat → Prop) (aa : Option Addr) (ab : Nat) (B : List (List Int)) (r1 : Bool) (r2 : Int) (w : World) (b6 : Kd.C (Kd.int .i64) w X I.length I) (b7 : I.length ≤ Y) (dd : Kd.V (Kd.slice 2 (Kd.int .i64)) 22 w w.heap.size (fun k_ => O k_) (.slice aa B.length ab) B) (h : Zas.f k G I T U W B = some (r1, r2)) (hTab : Tab w) :
  Calls Tryd.prog 14 #[.agg #[.int .i64 G, .slice X I.length Y], .agg #[.int .i64 T, .int .i64 U, .int .i64 W, .slice aa B.length ab]] w fun e w' => e = .returned (.tuple #[.bool r1, .int .i64 r2]) ∧ Below w.heap.size w w' := by
 have HTab := mA hTab
 clear hTab
 have eh := Tryd.underlying32
 have ei := Tryd.underlying34
 have bi := mA b6
 have bj := mA b7
 clear b6 b7
 have x := mA (show Kd.V (Kd.slice 2 (Kd.int .i64)) 22 w w.heap.size (fun k_ => (O k_ ∨ w.heap.size ≤ k_)) (.slice aa B.length ab) B from yS dd (fun k_ hk => .inl hk))
 have HB := mA (Below.refl w.heap.size w)
 unfold Zas.f at h
 have H := h
 clear h
 obtain ⟨a3, bM⟩ : ∃ y_ : List (S34), y_ = (([(⟨T, U, W, B⟩ : S34)] : List (S34))) := ⟨_, rfl⟩
 rw [← bM] at H
 have bu := mA bM
 clear bM
 replace H := bE H
 obtain ⟨bh, dp, H⟩ := H
 have A3 := mA dp
 clear dp
 by_cases c4 : bh = 0; rotate_left
 ·rw [if_neg c4] at H
  have cN : (bh == 0) = false := beq_eq_false_iff_ne.mpr c4
  have cO : (bh != 0) = true := bne_iff_ne.mpr c4
  simp only [Option.some.injEq, Prod.mk.injEq] at H
  obtain ⟨rfl, rfl⟩ := H
  go_enter Tryd.func14, Tryd.ntmps14
  go_wp2_with (first | ((with_reducible refine Zap (N := 2) rfl ?_); refine boxS (N := 2) (cs := #[.int .i64 G, .slice X I.length Y]) (t := 32) ?_; intro u hg ep hbox hb; replace x := mA (yO (xZ (by (with_reducible repeat (first | apply zX | apply zY | apply zV)); exact x.out) u (Nat.le_of_eq hg.symm)) hb); have a := mA (hbox); have de := geW (w := w) hg; have df := geW (w := w) hg; replace HB := mA (Zac (bW) hb); clear hb hbox hg) | ((with_reducible refine Zap (N := 3) rfl ?_); refine boxS (N := 3) (cs := #[.int .i64 T, .int .i64 U, .int .i64 W, .slice aa B.length ab]) (t := 34) ?_; intro y hg d8 hbox hb; replace x := mA (yO (xZ (by (with_reducible repeat (first | apply zX | apply zY | apply zV)); exact x.out) y (Nat.le_of_eq hg.symm)) hb); have b := mA (hbox); have dg := geW (w := w) hg; have dh := geW (w := w) hg; replace HB := mA (Zac (bW) hb); have a4 := mA (neB hg a); have a5 := mA (neC hg a); replace a := mA (blkB a.out hb); clear hb hbox hg; have d9 := a4.out; have ea := a5.out; obtain ⟨dW, dX⟩ := Zc6 a.out; obtain ⟨dY, dZ⟩ := frz2 a.out; obtain ⟨d0, d1, d2, d3⟩ := Zbi b.out; obtain ⟨d4, d5, d6, d7⟩ := frz4 b.out) | ((with_reducible refine Zap (N := 12) rfl ?_); refine Kd.N_lit k34 _ 34 ?hg (N' := 12) ?hd (xs := ([(⟨T, U, W, B⟩ : S34)] : List (S34))) (inner := [.int .i64 T, .int .i64 U, .int .i64 W, .slice aa B.length ab]) (ok := (fun k_ => (O k_ ∨ w.heap.size ≤ k_) ∧ k_ ≠ u ∧ k_ ≠ y)) (okp := (fun k_ => (O k_ ∨ w.heap.size ≤ k_) ∧ k_ ≠ u ∧ k_ ≠ y)) ?hr ?hp (fun _ hk => hk) ((show ∀ k_, d8.heap.size ≤ k_ → (fun k_ => (O k_ ∨ w.heap.size ≤ k_) ∧ k_ ≠ u ∧ k_ ≠ y) k_ from fun k_ hk => ⟨(.inr (Nat.le_trans (Zag (bW)) hk)), yG (g := u) (o := .cells #[.int .i64 G, .slice X I.length Y] 32 (0, 0)) (bP a.out) k_ hk, yG (g := y) (o := .cells #[.int .i64 T, .int .i64 U, .int .i64 W, .slice aa B.length ab] 34 (0, 0)) (bP b.out) k_ hk⟩) _ (Nat.le_refl _)) (Below.refl _ _) (Nat.le_refl _) (by simp) ?_; (case hd => rfl); (case hg => rfl); (case hr => first | (go_simp; done) | (go_simp; rfl)); (case hp => exact (Reps.c4 (show Kd.FK k34 _ _ (⟨T, U, W, B⟩ : S34) [.int .i64 T, .int .i64 U, .int .i64 W, .slice aa B.length ab] from (k34_mkF _ _ (⟨T, U, W, B⟩ : S34) (Kd.V_reads' (yS (ok' := (fun k_ => (O k_ ∨ w.heap.size ≤ k_) ∧ k_ ≠ u ∧ k_ ≠ y)) (x.out) (fun k_ hk => ⟨hk.1.1, ⟨hk.1.2, hk.2⟩⟩))).2.1 (Kd.V_F (yS (ok' := (fun k_ => (O k_ ∨ w.heap.size ≤ k_) ∧ k_ ≠ u ∧ k_ ≠ y)) (x.out) (fun k_ hk => ⟨hk.1.1, ⟨hk.1.2, hk.2⟩⟩))))) (Reps.none _ _))); intro dv er bk hb hg_ hnew_; clear hg_ hnew_; (first | rw [← bu.out] at bk | (simp only [Int.reduceToNat] at bk; rw [← bu.out] at bk)); replace x := mA (yX (by (with_reducible repeat (first | apply zX | apply zY | apply zV)); exact x.out) (xL bk) hb); have P := mA (xW bk (Zag (bW))); replace a := mA (blkB a.out hb); replace b := mA (blkB b.out hb); replace HB := mA (Zac (bW) hb); clear hb bk; obtain ⟨dw, dx, dy⟩ := yW P.out; subst dy) | ((with_reducible refine Zav (f := 21) rfl ?_); refine Zbo (some 13) Tryd.func21 #[.agg #[.int .i64 G, .slice X I.length Y], .slice dw a3.length dx] ?_; (with_reducible refine (Zdb.calls k G _ _ I _ _ a3 bh _ ?side1 ?side2 ?side3 ?side4 A3.out (tabW HTab.out)).mono ?_); (case side1 => exact cP (zF bi.out HB.out)); (case side2 => exact bj.out); (case side3 => exact cP ((yR P.out).2.2)); (case side4 => exact (yR P.out).2.1); rintro e es ⟨rfl, hb⟩; refine ⟨_, rfl, ?_⟩; replace x := mA (yO (by (with_reducible repeat (first | apply zX | apply zY | apply zV)); exact x.out) hb); replace P := mA (xN (by (with_reducible repeat (first | apply zM | apply zN | apply zL)); exact P.out) hb); replace a := mA (blkB a.out hb); replace b := mA (blkB b.out hb); replace HB := mA (Zac (bW) hb); (try clear hb); (try clear hb2); (try clear hk); (try clear hi)))
  go_ret2
  exact ⟨eW, bW⟩
 rw [if_pos c4] at H
 have cN : (bh == 0) = true := beq_iff_eq.mpr c4
 have cO : (bh != 0) = false := bne_eq_false_iff_eq.mpr c4
 clear c4
 replace H := bE H
 obtain ⟨⟨bU, bV, bv, bX⟩, A50, H⟩ := H
 try dsimp only at H
 have A5 := mA A50
 clear A50
 replace H := bE H
 obtain ⟨⟨bY, bZ, bN, bO⟩, A60, H⟩ := H
 try dsimp only at H
 have A6 := mA A60
 clear A60
 replace H := bE H
 obtain ⟨m, dq, H⟩ := H
 have A7 := mA dq
 clear dq
 have H' := mA H
 clear H
 go_enter Tryd.func14, Tryd.ntmps14
 go_wp2_with (first | ((with_reducible refine Zap (N := 2) rfl ?_); refine boxS (N := 2) (cs := #[.int .i64 G, .slice X I.length Y]) (t := 32) ?_; intro u hg w8 hbox hb; replace x := mA (yO (xZ (by (with_reducible repeat (first | apply zX | apply zY | apply zV)); exact x.out) u (Nat.le_of_eq hg.symm)) hb); have a := mA (hbox); have de := geW (w := w) hg; have df := geW (w := w) hg; replace HB := mA (Zac (bW) hb); clear hb hbox hg) | ((with_reducible refine Zap (N := 3) rfl ?_); refine boxS (N := 3) (cs := #[.int .i64 T, .int .i64 U, .int .i64 W, .slice aa B.length ab]) (t := 34) ?_; intro y hg w9 hbox hb; replace x := mA (yO (xZ (by (with_reducible repeat (first | apply zX | apply zY | apply zV)); exact x.out) y (Nat.le_of_eq hg.symm)) hb); have b := mA (hbox); have dg := geW (w := w) hg; have dh := geW (w := w) hg; replace HB := mA (Zac (bW) hb); have a4 := mA (neB hg a); have a5 := mA (neC hg a); replace a := mA (blkB a.out hb); clear hb hbox hg; have eb := a4.out; have ec := a5.out; obtain ⟨cf, cg⟩ := Zc6 a.out; obtain ⟨ch, ci⟩ := frz2 a.out; obtain ⟨cj, ck, cm, cn⟩ := Zbi b.out; obtain ⟨co, cp, cq, cr⟩ := frz4 b.out) | ((with_reducible refine Zap (N := 12) rfl ?_); refine Kd.N_lit k34 _ 34 ?hg (N' := 12) ?hd (xs := ([(⟨T, U, W, B⟩ : S34)] : List (S34))) (inner := [.int .i64 T, .int .i64 U, .int .i64 W, .slice aa B.length ab]) (ok := (fun k_ => (O k_ ∨ w.heap.size ≤ k_) ∧ k_ ≠ u ∧ k_ ≠ y)) (okp := (fun k_ => (O k_ ∨ w.heap.size ≤ k_) ∧ k_ ≠ u ∧ k_ ≠ y)) ?hr ?hp (fun _ hk => hk) ((show ∀ k_, w9.heap.size ≤ k_ → (fun k_ => (O k_ ∨ w.heap.size ≤ k_) ∧ k_ ≠ u ∧ k_ ≠ y) k_ from fun k_ hk => ⟨(.inr (Nat.le_trans (Zag (bW)) hk)), yG (g := u) (o := .cells #[.int .i64 G, .slice X I.length Y] 32 (0, 0)) (bP a.out) k_ hk, yG (g := y) (o := .cells #[.int .i64 T, .int .i64 U, .int .i64 W, .slice aa B.length ab] 34 (0, 0)) (bP b.out) k_ hk⟩) _ (Nat.le_refl _)) (Below.refl _ _) (Nat.le_refl _) (by simp) ?_; (case hd => rfl); (case hg => rfl); (case hr => first | (go_simp; done) | (go_simp; rfl)); (case hp => exact (Reps.c4 (show Kd.FK k34 _ _ (⟨T, U, W, B⟩ : S34) [.int .i64 T, .int .i64 U, .int .i64 W, .slice aa B.length ab] from (k34_mkF _ _ (⟨T, U, W, B⟩ : S34) (Kd.V_reads' (yS (ok' := (fun k_ => (O k_ ∨ w.heap.size ≤ k_) ∧ k_ ≠ u ∧ k_ ≠ y)) (x.out) (fun k_ hk => ⟨hk.1.1, ⟨hk.1.2, hk.2⟩⟩))).2.1 (Kd.V_F (yS (ok' := (fun k_ => (O k_ ∨ w.heap.size ≤ k_) ∧ k_ ≠ u ∧ k_ ≠ y)) (x.out) (fun k_ hk => ⟨hk.1.1, ⟨hk.1.2, hk.2⟩⟩))))) (Reps.none _ _))); intro dv et bl hb hg_ hnew_; clear hg_ hnew_; (first | rw [← bu.out] at bl | (simp only [Int.reduceToNat] at bl; rw [← bu.out] at bl)); replace x := mA (yX (by (with_reducible repeat (first | apply zX | apply zY | apply zV)); exact x.out) (xL bl) hb); have P := mA (xW bl (Zag (bW))); replace a := mA (blkB a.out hb); replace b := mA (blkB b.out hb); replace HB := mA (Zac (bW) hb); clear hb bl; obtain ⟨bw, bx, dz⟩ := yW P.out; subst dz) | ((with_reducible refine Zav (f := 21) rfl ?_); refine Zbo (some 13) Tryd.func21 #[.agg #[.int .i64 G, .slice X I.length Y], .slice bw a3.length bx] ?_; (with_reducible refine (Zdb.calls k G _ _ I _ _ a3 bh _ ?side1 ?side2 ?side3 ?side4 A3.out (tabW HTab.out)).mono ?_); (case side1 => exact cP (zF bi.out HB.out)); (case side2 => exact bj.out); (case side3 => exact cP ((yR P.out).2.2)); (case side4 => exact (yR P.out).2.1); rintro e eu ⟨rfl, hb⟩; refine ⟨_, rfl, ?_⟩; replace x := mA (yO (by (with_reducible repeat (first | apply zX | apply zY | apply zV)); exact x.out) hb); replace P := mA (xN (by (with_reducible repeat (first | apply zM | apply zN | apply zL)); exact P.out) hb); replace a := mA (blkB a.out hb); replace b := mA (blkB b.out hb); replace HB := mA (Zac (bW) hb); (try clear hb); (try clear hb2); (try clear hk); (try clear hi); obtain ⟨ct, cu, cv, cw⟩ := Zbi b.out; obtain ⟨cx, cy, cz, cA⟩ := frz4 b.out) | ((with_reducible refine Zav (f := 22) rfl ?_); refine Zbo (some 18) Tryd.func22 #[.agg #[.int .i64 T, .int .i64 U, .int .i64 W, .slice aa B.length ab]] ?_; (with_reducible refine (Zbe.calls k T U W (fun k_ => ((((O k_ ∨ w.heap.size ≤ k_) ∧ k_ ≠ u) ∧ k_ ≠ y) ∧ some k_ ≠ (.slice bw a3.length bx : Value).ownBlock)) _ _ B bU bV bv bX _ ?side1 A5.out).mono ?_); (case side1 => exact x.out); rintro e ev ⟨dA, ej, rfl, v, bs, hb⟩; refine ⟨_, rfl, ?_⟩; replace x := mA (yX (by (with_reducible repeat (first | apply zX | apply zY | apply zV)); exact x.out) (zH v) hb); have aw := mA (zP (yP (M := fun k_ => (w.heap.size ≤ k_)) (zB (ok' := fun k_ => True) v (fun _ hk_ => trivial)) (Zag (bW)) (fun k_ h_ => h_)) (Zag (bW))); have aT := mA (Kd.V_lower (yS (ok' := fun k_ => (O k_ ∨ w.heap.size ≤ k_) ∧ some k_ ≠ (dA : Value).ownBlock ∧ some k_ ≠ (.slice bw a3.length bx : Value).ownBlock ∧ k_ ≠ u ∧ k_ ≠ y) bs (fun k_ hk_ => ⟨Or.elim hk_.1 (fun hs_ => hs_.1.1.1) (fun hn_ => (.inr (Nat.le_trans (Zag (bW)) hn_))), hk_.2, Or.elim hk_.1 (fun hs_ => hs_.2) (fun hn_ => (zT (Kd.N_lt (by (with_reducible repeat (first | apply zM | apply zN | apply zL)); exact P.out)) k_ hn_)), Or.elim hk_.1 (fun hs_ => hs_.1.1.2) (fun hn_ => (yG (g := u) (o := .cells #[.int .i64 G, .slice X I.length Y] 32 (0, 0)) (bP a.out) k_ hn_)), Or.elim hk_.1 (fun hs_ => hs_.1.2) (fun hn_ => (yG (g := y) (o := .cells #[.int .i64 T, .int .i64 U, .int .i64 W, .slice aa B.length ab] 34 (0, 0)) (bP b.out) k_ hn_))⟩)) (Zag (bW))); replace P := mA (xA (by (with_reducible repeat (first | apply zM | apply zN | apply zL)); exact P.out) (zH v) hb); replace a := mA (blkB a.out hb); replace b := mA (blkB b.out hb); replace HB := mA (Zac (bW) hb); (try clear hb); (try clear hb2); (try clear hk); (try clear hi); (try clear v); (try clear bs); obtain ⟨b0, b1, dB⟩ := zJ aw.out; subst dB; obtain ⟨dC, dD, dE⟩ := Kd.V_slice aT.out; subst dE) | ((with_reducible refine Zav (f := 31) rfl ?_); refine Zbo (some 19) Tryd.func31 #[.agg #[.int .i64 bU, .int .i64 bV, .slice b0 bv.length b1, .slice dC bX.length dD]] ?_; (with_reducible refine (Zal.calls k bU bV _ _ bv _ _ bX bY bZ bN bO _ ?side1 ?side2 ?side3 ?side4 A6.out).mono ?_); (case side1 => exact cP ((zE aw.out).2.2)); (case side2 => exact (zE aw.out).2.1); (case side3 => exact cP ((Kd.V_reads' aT.out).2.2)); (case side4 => exact (Kd.V_reads' aT.out).2.1); rintro e ew ⟨dG, ek, rfl, v, bs, hb⟩; refine ⟨_, rfl, ?_⟩; replace x := mA (yS (Kd.V_told (Kd.V_told (Kd.V_old (by (with_reducible repeat (first | apply zX | apply zY | apply zV)); exact x.out) hb) (zH v)) (xL bs)) (fun _ h_ => h_.1)); replace aT := mA (yS (Kd.V_told (Kd.V_told (Kd.V_old (by (with_reducible repeat (first | apply zX | apply zY | apply zV)); exact aT.out) hb) (zH v)) (xL bs)) (fun _ h_ => h_.1)); have bf := mA (zP (zS (yP (M := fun k_ => (w.heap.size ≤ k_)) (zB (ok' := fun k_ => True) v (fun _ hk_ => trivial)) (Zag (bW)) (fun k_ h_ => h_)) (zG (rP aw.out))) (Zag (bW))); have bg := mA (xW (yB (ok' := fun k_ => (O k_ ∨ w.heap.size ≤ k_) ∧ some k_ ≠ (dG : Value).ownBlock ∧ some k_ ≠ (.slice bw a3.length bx : Value).ownBlock ∧ some k_ ≠ (.slice b0 bv.length b1 : Value).ownBlock ∧ k_ ≠ u ∧ k_ ≠ y) bs (fun k_ hk_ => ⟨(.inr (Nat.le_trans (Zag (bW)) hk_.1)), hk_.2, (zT (Kd.N_lt (by (with_reducible repeat (first | apply zM | apply zN | apply zL)); exact P.out)) k_ hk_.1), (zT (zG (rP aw.out)) k_ hk_.1), (yG (g := u) (o := .cells #[.int .i64 G, .slice X I.length Y] 32 (0, 0)) (bP a.out) k_ hk_.1), (yG (g := y) (o := .cells #[.int .i64 T, .int .i64 U, .int .i64 W, .slice aa B.length ab] 34 (0, 0)) (bP b.out) k_ hk_.1)⟩)) (Zag (bW))); replace P := mA (yB (Kd.N_told (Kd.N_told (Kd.N_old (by (with_reducible repeat (first | apply zM | apply zN | apply zL)); exact P.out) hb) (zH v)) (xL bs)) (fun _ h_ => h_.1)); replace aw := mA (zR (rP aw.out) (zH v) hb); replace a := mA (blkB a.out hb); replace b := mA (blkB b.out hb); replace HB := mA (Zac (bW) hb); (try clear hb); (try clear hb2); (try clear hk); (try clear hi); (try clear v); (try clear bs); obtain ⟨cQ, cR, dH⟩ := zJ bf.out; subst dH; obtain ⟨cS, cT, dI⟩ := yW bg.out; subst dI) | ((with_reducible refine Zav (f := 32) rfl ?_); refine Zbo (some 20) Tryd.func32 #[.agg #[.int .i64 bY, .int .i64 bZ, .slice cQ bN.length cR, .slice cS bO.length cT]] ?_; (with_reducible refine (Zaw.calls k bY bZ _ _ bN _ _ bO m _ ?side1 ?side2 ?side3 ?side4 A7.out).mono ?_); (case side1 => exact cP ((zE bf.out).2.2)); (case side2 => exact (zE bf.out).2.1); (case side3 => exact cP ((yR bg.out).2.2)); (case side4 => exact (yR bg.out).2.1); rintro e ey ⟨bQ, rfl, v, hb⟩; refine ⟨_, rfl, ?_⟩; replace x := mA (yX (by (with_reducible repeat (first | apply zX | apply zY | apply zV)); exact x.out) (xL (Kd.S_N v)) hb); replace aT := mA (yX (by (with_reducible repeat (first | apply zX | apply zY | apply zV)); exact aT.out) (xL (Kd.S_N v)) hb); have di := mA (xW (yB (ok' := fun k_ => (O k_ ∨ w.heap.size ≤ k_) ∧ some k_ ≠ (.slice bw a3.length bx : Value).ownBlock ∧ some k_ ≠ (.slice b0 bv.length b1 : Value).ownBlock ∧ some k_ ≠ (.slice cQ bN.length cR : Value).ownBlock ∧ some k_ ≠ (.slice cS bO.length cT : Value).ownBlock ∧ k_ ≠ u ∧ k_ ≠ y) (Kd.S_N (Kd.S_bound v)) (fun k_ hk_ => ⟨(.inr (Nat.le_trans (Zag (bW)) hk_.2.1)), (zT (Kd.N_lt (by (with_reducible repeat (first | apply zM | apply zN | apply zL)); exact P.out)) k_ hk_.2.1), (zT (zG (rP aw.out)) k_ hk_.2.1), (zT (zG (rP bf.out)) k_ hk_.2.1), (zT (Kd.N_lt (by (with_reducible repeat (first | apply zM | apply zN | apply zL)); exact bg.out)) k_ hk_.2.1), (yG (g := u) (o := .cells #[.int .i64 G, .slice X I.length Y] 32 (0, 0)) (bP a.out) k_ hk_.2.1), (yG (g := y) (o := .cells #[.int .i64 T, .int .i64 U, .int .i64 W, .slice aa B.length ab] 34 (0, 0)) (bP b.out) k_ hk_.2.1)⟩)) (Zag (bW))); replace P := mA (xA (by (with_reducible repeat (first | apply zM | apply zN | apply zL)); exact P.out) (xL (Kd.S_N v)) hb); replace aw := mA (zK (rP aw.out) hb); replace bf := mA (zK (rP bf.out) hb); replace bg := mA (xA (by (with_reducible repeat (first | apply zM | apply zN | apply zL)); exact bg.out) (xL (Kd.S_N v)) hb); replace a := mA (blkB a.out hb); replace b := mA (blkB b.out hb); replace HB := mA (Zac (bW) hb); (try clear hb); (try clear hb2); (try clear hk); (try clear hi); (try clear v); obtain ⟨cB, cC⟩ := Zc6 a.out; obtain ⟨cD, cE⟩ := frz2 a.out))
 go_loopg [23] k (fun kq v23 w' => ∃ (c : Int), v23 = .int .i64 c ∧ Zaa (Zas.l0 kq m G c G I = some (r1, r2)) ∧ Zaa (kq ≤ k) ∧ Zaa (Kd.N (Kd.slice 2 (Kd.int .i64)) 22 w' w.heap.size (fun k_ => (O k_ ∨ w.heap.size ≤ k_) ∧ k_ ≠ u ∧ k_ ≠ y) bQ m) ∧ Zaa (Kd.V (Kd.slice 2 (Kd.int .i64)) 22 w' w.heap.size (fun k_ => (O k_ ∨ w.heap.size ≤ k_) ∧ some k_ ≠ (bQ : Value).ownBlock ∧ k_ ≠ u ∧ k_ ≠ y) (.slice aa B.length ab) B) ∧ Zaa (w'.heap[u]? = some (.cells #[.int .i64 G, (.slice X I.length Y)] 32 (0, 0))) ∧ Zaa (w'.heap[y]? = some (.cells #[.int .i64 T, .int .i64 U, .int .i64 W, (.slice aa B.length ab)] 34 (0, 0))) ∧ Zaa (Below w.heap.size w w'))
 case atStart => exact ⟨(0), (eW), H', ⟨Nat.le_refl _⟩, ⟨by (with_reducible repeat (first | apply zM | apply zN | apply zL)); exact yB di.out (fun _ hk => ⟨hk.1, ⟨hk.2.2.2.2.2.1, hk.2.2.2.2.2.2⟩⟩)⟩, ⟨by (with_reducible repeat (first | apply zX | apply zY | apply zV)); exact yS x.out (fun _ hk => ⟨hk.1.1.1.1.1.1.1, ⟨hk.2, ⟨hk.1.1.1.1.1.1.2, hk.1.1.1.1.1.2⟩⟩⟩)⟩, ⟨bP a.out⟩, ⟨bP b.out⟩, ⟨bW⟩⟩
 case round =>
  clear H' cN cO cf cg cj ck cm cn ct cu cv cw cB cC ch ci co cp cq cr cx cy cz cA cD cE
  obtain ⟨c, rfl, HA, bI, l, d, a, b, HB⟩ := hrel
  cases gk with
  | zero => exact absurd HA.out (by simp [Zas.l0])
  | succ k1 =>
   have H := HA.out
   clear HA
   simp only [Zas.l0] at H
   by_cases bJ : c < G; rotate_left
   ·rw [if_neg bJ] at H
    have b8 := dF bJ
    clear bJ
    simp only [Option.some.injEq, Prod.mk.injEq] at H
    obtain ⟨rfl, rfl⟩ := H
    go_wp2
    go_ret2
    exact ⟨eW, bW⟩
   rw [if_pos bJ] at H
   have b8 := dT bJ
   clear bJ
   have H' := mA H
   clear H
   go_wp2
   go_loopg [27] k1 (fun kq v27 w' => ∃ (j : Int), v27 = .int .i64 j ∧ Zaa (Zas.l1 kq m c G c c j G I = some (r1, r2)) ∧ Zaa (kq ≤ k1) ∧ Zaa (Kd.N (Kd.slice 2 (Kd.int .i64)) 22 w' w.heap.size (fun k_ => (O k_ ∨ w.heap.size ≤ k_) ∧ k_ ≠ u ∧ k_ ≠ y) bQ m) ∧ Zaa (Kd.V (Kd.slice 2 (Kd.int .i64)) 22 w' w.heap.size (fun k_ => (O k_ ∨ w.heap.size ≤ k_) ∧ some k_ ≠ (bQ : Value).ownBlock ∧ k_ ≠ u ∧ k_ ≠ y) (.slice aa B.length ab) B) ∧ Zaa (w'.heap[u]? = some (.cells #[.int .i64 G, (.slice X I.length Y)] 32 (0, 0))) ∧ Zaa (w'.heap[y]? = some (.cells #[.int .i64 T, .int .i64 U, .int .i64 W, (.slice aa B.length ab)] 34 (0, 0))) ∧ Zaa (Below w.heap.size w w'))
   case atStart => exact ⟨(0), (eW), H', ⟨Nat.le_refl _⟩, ⟨by (with_reducible repeat (first | apply zM | apply zN | apply zL)); exact l.out⟩, ⟨by (with_reducible repeat (first | apply zX | apply zY | apply zV)); exact d.out⟩, ⟨bP a.out⟩, ⟨bP b.out⟩, ⟨bW⟩⟩
   case round =>
    clear H' b8
    obtain ⟨j, rfl, HA, bK, l, d, a, b, HB⟩ := hrel
    cases gk with
    | zero => exact absurd HA.out (by simp [Zas.l1])
    | succ k2 =>
     have H := HA.out
     clear HA
     simp only [Zas.l1] at H
     by_cases bL : j < c; rotate_left
     ·rw [if_neg bL] at H
      have dj := dF bL
      clear bL
      have H' := mA H
      clear H
      go_wp2
      go_roundg k2
      case measure => have := bI.out; have := bK.out; omega
      case rel => exact ⟨(wrap64 (c + 1)), (eW), H', ⟨by have := bI.out; have := bK.out; omega⟩, ⟨by (with_reducible repeat (first | apply zM | apply zN | apply zL)); exact l.out⟩, ⟨by (with_reducible repeat (first | apply zX | apply zY | apply zV)); exact d.out⟩, ⟨bP a.out⟩, ⟨bP b.out⟩, ⟨bW⟩⟩
     rw [if_pos bL] at H
     have dj := dT bL
     clear bL
     replace H := bE H
     obtain ⟨dJ, cU, H⟩ := H
     have cV := mA cU
     clear cU
     by_cases b9 : dJ = true
     ·subst b9
      rw [if_pos rfl] at H
      have H' := mA H
      clear H
      try go_wp2
      replace l := mA (zL l.out)
      replace d := mA (zV d.out)
      replace a := mA (Zad a.out)
      replace b := mA (Zad b.out)
      replace HB := mA (Za0 HB.out)
      refine Zcq (n := 27) (S := fun w' => w'.cell? ⟨u, 0, none⟩ = some (.int .i64 G) ∧ w'.cell? ⟨u, 1, none⟩ = some (.slice X I.length Y)) (ds := []) #[false, false, false, false, false, false, false, false, false, false, false, false, false, false, false, false, false, false, false, false, false, false, false, false, false, false, false] (by kernel_rfl) rfl rfl ⟨bc a 0, bc a 1⟩ (fun hHeld => ?_); refine Zb7 Zas.tab11 Zas.bits11 (fun HT_ HW_ => ?_)
      generalize wr.drew = w30 at l d a b HB hHeld ⊢
      refine Zan (i := 1) (N := some 31) (Zai HT_.out (by kernel_rfl)) ?_
      refine Zan (i := 2) (N := some 32) (Zai HT_.out (by kernel_rfl)) ?_
      refine Za8 (i := 0) (N := some 30) (Zaz HT_.out HW_.out (by kernel_rfl)) hHeld ?_
      refine one_ (i := 3) (N := some 33) #[true, true, true, true, false, false, false, false, false, false, false, false, false, false, false, false, false, false, false, false, false, false, false, false, false, false, false] rfl rfl (Za9 HT_.out (by kernel_rfl)) (by decide) (fun K hK => ?_)
      refine Zb6 Tryd.func33 (by kernel_rfl) rfl #[.agg #[.int .i64 G, .slice X I.length Y], .int .i64 c, .int .i64 j] (by rfl) rfl rfl (by (try simp only [List.map_toArray, List.map_cons, List.map_nil]); first | done | rfl | (simp only [List.length_drop, List.length_take]; rfl)) ?_
      with_reducible refine (Zdj.calls G _ _ I c j true _ ?side1 ?side2 cV.out).mono ?_
      (case side1 => exact cP (zF bi.out HB.out))
      (case side2 => exact bj.out)
      rintro e ez ⟨rfl, hb⟩
      refine ⟨_, rfl, ?_⟩
      replace l := mA (xN (by (with_reducible repeat (first | apply zM | apply zN | apply zL)); exact l.out) hb)
      replace d := mA (yO (by (with_reducible repeat (first | apply zX | apply zY | apply zV)); exact d.out) hb)
      replace a := mA (blkB a.out hb)
      replace b := mA (blkB b.out hb)
      replace HB := mA (Zac (bW) hb)
      (try clear hb)
      (try clear hb2)
      (try clear hk)
      (try clear hi)
      refine hK.out _ _ ⟨bc a 0, bc a 1⟩ (fun hHeld => ?_)
      clear hK K
      refine putS 33 ?_
      refine Zan (i := 4) (N := some 34) (Zai HT_.out (by kernel_rfl)) ?_
      refine Zan (i := 5) (N := some 35) (Zai HT_.out (by kernel_rfl)) ?_
      refine Zby (i := 6) (N := some 36) (Zai HT_.out (by kernel_rfl)) ?_
      refine Zby (i := 7) (N := some 37) (Zai HT_.out (by kernel_rfl)) ?_
      refine Zby (i := 8) (N := some 38) (Zai HT_.out (by kernel_rfl)) ?_
      refine Zby (i := 9) (N := some 39) (Zai HT_.out (by kernel_rfl)) ?_
      refine Zby (i := 10) (N := some 40) (Zai HT_.out (by kernel_rfl)) ?_
      refine Zby (i := 11) (N := some 41) (Zai HT_.out (by kernel_rfl)) ?_
      refine Zby (i := 12) (N := some 42) (Zai HT_.out (by kernel_rfl)) ?_
      refine Zby (i := 13) (N := some 43) (Zai HT_.out (by kernel_rfl)) ?_
      refine Zby (i := 14) (N := some 44) (Zai HT_.out (by kernel_rfl)) ?_
      refine Zby (i := 15) (N := some 45) (Zai HT_.out (by kernel_rfl)) ?_
      refine Zby (i := 16) (N := some 46) (Zai HT_.out (by kernel_rfl)) ?_
      refine Zby (i := 17) (N := some 47) (Zai HT_.out (by kernel_rfl)) ?_
      refine Zby (i := 18) (N := some 48) (Zai HT_.out (by kernel_rfl)) ?_
      refine Zby (i := 19) (N := some 49) (Zai HT_.out (by kernel_rfl)) ?_
      refine Zby (i := 20) (N := some 50) (Zai HT_.out (by kernel_rfl)) ?_
      refine Zby (i := 21) (N := some 51) (Zai HT_.out (by kernel_rfl)) ?_
      refine Zby (i := 22) (N := some 52) (Zai HT_.out (by kernel_rfl)) ?_
      refine Zby (i := 23) (N := some 53) (Zai HT_.out (by kernel_rfl)) ?_
      refine Zby (i := 24) (N := some 54) (Zai HT_.out (by kernel_rfl)) ?_
      refine Zby (i := 25) (N := some 55) (Zai HT_.out (by kernel_rfl)) ?_
      refine Zan (i := 26) (N := some 56) (Zai HT_.out (by kernel_rfl)) ?_
      refine Zcz (Zct HT_.out (by kernel_rfl)) ?_
      try go_wp2
      go_roundg k2
      case measure => have := bI.out; have := bK.out; omega
      case rel => exact ⟨(wrap64 (j + 1)), (eW), H', ⟨by have := bI.out; have := bK.out; omega⟩, ⟨by (with_reducible repeat (first | apply zM | apply zN | apply zL)); exact l.out⟩, ⟨by (with_reducible repeat (first | apply zX | apply zY | apply zV)); exact d.out⟩, ⟨bP a.out⟩, ⟨bP b.out⟩, ⟨bW⟩⟩
     replace b9 := Bool.eq_false_iff.mpr b9
     subst b9
     rw [iF] at H
     by_cases ca : 0 ≤ c; rotate_left
     ·rw [if_neg ca] at H
      exact absurd H (by simp)
     rw [if_pos ca] at H
     have ed := dT ca
     clear ca
     by_cases cb : c < (m.length : Int); rotate_left
     ·rw [if_neg cb] at H
      exact absurd H (by simp)
     rw [if_pos cb] at H
     have ee := dT cb
     clear cb
     by_cases cc : 0 ≤ j; rotate_left
     ·rw [if_neg cc] at H
      exact absurd H (by simp)
     rw [if_pos cc] at H
     have ef := dT cc
     clear cc
     by_cases cd : j < (m.length : Int); rotate_left
     ·rw [if_neg cd] at H
      exact absurd H (by simp)
     rw [if_pos cd] at H
     have eg := dT cd
     clear cd
     replace H := bE H
     obtain ⟨bm, cW, H⟩ := H
     have dr := mA cW
     clear cW
     replace H := bE H
     obtain ⟨bn, cX, H⟩ := H
     have dt := mA cX
     clear cX
     replace H := bE H
     obtain ⟨dK, cY, H⟩ := H
     have du := mA cY
     clear cY
     by_cases ce : dK = true; rotate_left
     ·replace ce := Bool.eq_false_iff.mpr ce
      subst ce
      rw [iF] at H
      simp only [Option.some.injEq, Prod.mk.injEq] at H
      obtain ⟨rfl, rfl⟩ := H
      try go_wp2
      replace l := mA (zL l.out)
      replace d := mA (zV d.out)
      replace a := mA (Zad a.out)
      replace b := mA (Zad b.out)
      replace HB := mA (Za0 HB.out)
      have aU : 0 ≤ (c : Int) := ofD
      have aV : c < (m.length : Int) := ofD
      (try (obtain ⟨Az_, cz_, ez_⟩ := yW l.out; subst ez_))
      obtain ⟨ac, az, aA, b2, ad, aL, aM⟩ := Zch (yR l.out).2.2 c aU aV
      cases b2
      obtain ⟨dk, bz, bA, a6⟩ := Kd.N_get l.out [] c aU (by first | exact aV | exact ofD | (have e_ := (yR l.out).1; omega))
      obtain ⟨cF, cG, rfl, am, an⟩ := xX bA
      have ae := a6 0 _ rfl
      rw [Nat.add_zero, show ((Kd.slice 2 (Kd.int .i64))).sz = 1 from rfl, Nat.mul_one] at ae
      replace ae := Option.some.inj (ae.symm.trans ad)
      injection ae with hva_ hvn_ hvc_
      rw [hva_] at an
      rw [hvc_] at am
      have D := mA (show Kd.V (Kd.int .i64) 2 _ w.heap.size _ _ (Zae m c) from Kd.V_mk am an)
      clear hva_ hvn_ hvc_ an am a6 bz
      have p := mA aM
      have bo := mA aL
      clear aM aL
      replace aU := eq_true aU
      replace aV := eq_true aV
      have aW : 0 ≤ (j : Int) := ofD
      have aX : j < (m.length : Int) := ofD
      (try (obtain ⟨Az_, cz_, ez_⟩ := yW l.out; subst ez_))
      obtain ⟨bR, aB, aC, b3, af, aN, aO⟩ := Zch (yR l.out).2.2 j aW aX
      obtain rfl : ac = bR := (by injection b3)
      obtain ⟨dl, bB, bC, a7⟩ := Kd.N_get l.out [] j aW (by first | exact aX | exact ofD | (have e_ := (yR l.out).1; omega))
      obtain ⟨cH, cI, rfl, ao, ap⟩ := xX bC
      have ag := a7 0 _ rfl
      rw [Nat.add_zero, show ((Kd.slice 2 (Kd.int .i64))).sz = 1 from rfl, Nat.mul_one] at ag
      replace ag := Option.some.inj (ag.symm.trans af)
      injection ag with hva_ hvn_ hvc_
      rw [hva_] at ap
      rw [hvc_] at ao
      have E := mA (show Kd.V (Kd.int .i64) 2 _ w.heap.size _ _ (Zae m j) from Kd.V_mk ao ap)
      clear hva_ hvn_ hvc_ ap ao a7 bB
      have q := mA aO
      have bp := mA aN
      clear aO aN
      replace aW := eq_true aW
      replace aX := eq_true aX
      have aY : 0 ≤ (j : Int) := ofD
      have aZ : j < (m.length : Int) := ofD
      (try (obtain ⟨Az_, cz_, ez_⟩ := yW l.out; subst ez_))
      obtain ⟨bS, aD, aE, b4, ah, aP, aQ⟩ := Zch (yR l.out).2.2 j aY aZ
      obtain rfl : ac = bS := (by injection b4)
      (try (have J : aD = aB ∧ aE = aC := (by have e_ := ah.symm.trans af; simpa using e_)))
      obtain ⟨dm, bD, bF, a8⟩ := Kd.N_get l.out [] j aY (by first | exact aZ | exact ofD | (have e_ := (yR l.out).1; omega))
      obtain ⟨cJ, cK, rfl, aq, ar⟩ := xX bF
      have ai := a8 0 _ rfl
      rw [Nat.add_zero, show ((Kd.slice 2 (Kd.int .i64))).sz = 1 from rfl, Nat.mul_one] at ai
      replace ai := Option.some.inj (ai.symm.trans ah)
      injection ai with hva_ hvn_ hvc_
      rw [hva_] at ar
      rw [hvc_] at aq
      have z := mA (show Kd.V (Kd.int .i64) 2 _ w.heap.size _ _ (Zae m j) from Kd.V_mk aq ar)
      clear hva_ hvn_ hvc_ ar aq a8 bD
      have r := mA aQ
      have bq := mA aP
      clear aQ aP
      replace aY := eq_true aY
      replace aZ := eq_true aZ
      have a0 : 0 ≤ (c : Int) := ofD
      have a1 : c < (m.length : Int) := ofD
      (try (obtain ⟨Az_, cz_, ez_⟩ := yW l.out; subst ez_))
      obtain ⟨bT, aF, aG, b5, aj, aR, aS⟩ := Zch (yR l.out).2.2 c a0 a1
      obtain rfl : ac = bT := (by injection b5)
      (try (have L : aF = az ∧ aG = aA := (by have e_ := aj.symm.trans ad; simpa using e_)))
      obtain ⟨dn, bG, bH, a9⟩ := Kd.N_get l.out [] c a0 (by first | exact a1 | exact ofD | (have e_ := (yR l.out).1; omega))
      obtain ⟨cL, cM, rfl, au, av⟩ := xX bH
      have ak := a9 0 _ rfl
      rw [Nat.add_zero, show ((Kd.slice 2 (Kd.int .i64))).sz = 1 from rfl, Nat.mul_one] at ak
      replace ak := Option.some.inj (ak.symm.trans aj)
      injection ak with hva_ hvn_ hvc_
      rw [hva_] at av
      rw [hvc_] at au
      have A := mA (show Kd.V (Kd.int .i64) 2 _ w.heap.size _ _ (Zae m c) from Kd.V_mk au av)
      clear hva_ hvn_ hvc_ av au a9 bG
      have s := mA aS
      have br := mA aR
      clear aS aR
      replace a0 := eq_true a0
      replace a1 := eq_true a1
      refine Zcq (n := 27) (S := fun w' => w'.cell? ⟨u, 0, none⟩ = some (.int .i64 G) ∧ w'.cell? ⟨u, 1, none⟩ = some (.slice X I.length Y) ∧ w'.cell? (ac.add (c).toNat) = some (.slice az (Zae m c).length aA) ∧ w'.cell? (ac.add (j).toNat) = some (.slice aB (Zae m j).length aC) ∧ w'.cell? (ac.add (j).toNat) = some (.slice aD (Zae m j).length aE) ∧ w'.cell? (ac.add (c).toNat) = some (.slice aF (Zae m c).length aG)) (ds := []) #[false, false, false, false, false, false, false, false, false, false, false, false, false, false, false, false, false, false, false, false, false, false, false, false, false, false, false] (by kernel_rfl) rfl rfl ⟨bc a 0, bc a 1, ad, af, ah, aj⟩ (fun hHeld => ?_); refine Zb7 Zas.tab11 Zas.bits11 (fun HT_ HW_ => ?_)
      generalize wr.drew = w47 at l d a b HB D E z A p q r s ad af ah aj hHeld ⊢
      refine Zan (i := 1) (N := some 31) (Zai HT_.out (by kernel_rfl)) ?_
      refine Zan (i := 2) (N := some 32) (Zai HT_.out (by kernel_rfl)) ?_
      refine Za8 (i := 0) (N := some 30) (Zaz HT_.out HW_.out (by kernel_rfl)) hHeld ?_
      refine one_ (i := 3) (N := some 33) #[true, true, true, true, false, false, false, false, false, false, false, false, false, false, false, false, false, false, false, false, false, false, false, false, false, false, false] rfl rfl (Za9 HT_.out (by kernel_rfl)) (by decide) (fun K hK => ?_)
      refine Zb6 Tryd.func33 (by kernel_rfl) rfl #[.agg #[.int .i64 G, .slice X I.length Y], .int .i64 c, .int .i64 j] (by rfl) rfl rfl (by (try simp only [List.map_toArray, List.map_cons, List.map_nil]); first | done | (simp only [J.1, J.2, L.1, L.2]; rfl) | rfl | (simp only [List.length_drop, List.length_take]; rfl)) ?_
      with_reducible refine (Zdj.calls G _ _ I c j false _ ?side1 ?side2 cV.out).mono ?_
      (case side1 => exact cP (zF bi.out HB.out))
      (case side2 => exact bj.out)
      rintro e eA ⟨rfl, hb⟩
      have aH := (hb.cell (World.block_lt_of_cell? _ _ (hHeld.2.2.1))).trans (hHeld.2.2.1)
      have aI := (hb.cell (World.block_lt_of_cell? _ _ (hHeld.2.2.2.1))).trans (hHeld.2.2.2.1)
      have aJ := (hb.cell (World.block_lt_of_cell? _ _ (hHeld.2.2.2.2.1))).trans (hHeld.2.2.2.2.1)
      have aK := (hb.cell (World.block_lt_of_cell? _ _ (hHeld.2.2.2.2.2))).trans (hHeld.2.2.2.2.2)
      refine ⟨_, rfl, ?_⟩
      replace l := mA (xN (by (with_reducible repeat (first | apply zM | apply zN | apply zL)); exact l.out) hb)
      replace d := mA (yO (by (with_reducible repeat (first | apply zX | apply zY | apply zV)); exact d.out) hb)
      replace a := mA (blkB a.out hb)
      replace b := mA (blkB b.out hb)
      replace HB := mA (Zac (bW) hb)
      have nr_ := mA (yO D.out hb); clear D; have D := nr_; clear nr_
      have nr_ := mA (yO E.out hb); clear E; have E := nr_; clear nr_
      have nr_ := mA (yO z.out hb); clear z; have z := nr_; clear nr_
      have nr_ := mA (yO A.out hb); clear A; have A := nr_; clear nr_
      have nr_ := mA (zF p.out hb); clear p; have p := nr_; clear nr_
      have nr_ := mA (zF q.out hb); clear q; have q := nr_; clear nr_
      have nr_ := mA (zF r.out hb); clear r; have r := nr_; clear nr_
      have nr_ := mA (zF s.out hb); clear s; have s := nr_; clear nr_
      (try clear hb)
      (try clear hb2)
      (try clear hk)
      (try clear hi)
      obtain ⟨el, em, cZ⟩ := yW l.out
      (first | subst cZ | (injection cZ with ax ba ay; have bb := ax.symm; have bd := ay.symm; clear ax ba ay; subst bb; subst bd))
      refine hK.out _ _ ⟨bc a 0, bc a 1, aH, aI, aJ, aK⟩ (fun hHeld => ?_)
      clear hK K
      refine putS 33 ?_
      refine Zan (i := 4) (N := some 34) (Zai HT_.out (by kernel_rfl)) ?_
      refine Zan (i := 5) (N := some 35) (Zai HT_.out (by kernel_rfl)) ?_
      refine Zan (i := 6) (N := some 36) (Zai HT_.out (by kernel_rfl)) ?_
      refine Zan (i := 7) (N := some 37) (Zai HT_.out (by kernel_rfl)) ?_
      refine Zan (i := 8) (N := some 38) (Zai HT_.out (by kernel_rfl)) ?_
      refine Zan (i := 10) (N := some 40) (Zai HT_.out (by kernel_rfl)) ?_
      refine Zan (i := 11) (N := some 41) (Zai HT_.out (by kernel_rfl)) ?_
      refine Zan (i := 12) (N := some 42) (Zai HT_.out (by kernel_rfl)) ?_
      refine Zan (i := 15) (N := some 45) (Zai HT_.out (by kernel_rfl)) ?_
      refine Zan (i := 16) (N := some 46) (Zai HT_.out (by kernel_rfl)) ?_
      refine Zan (i := 17) (N := some 47) (Zai HT_.out (by kernel_rfl)) ?_
      refine Zan (i := 19) (N := some 49) (Zai HT_.out (by kernel_rfl)) ?_
      refine Zan (i := 20) (N := some 50) (Zai HT_.out (by kernel_rfl)) ?_
      refine Zan (i := 21) (N := some 51) (Zai HT_.out (by kernel_rfl)) ?_
      refine Za8 (i := 9) (N := some 39) (Zaz HT_.out HW_.out (by kernel_rfl)) hHeld ?_
      refine Za8 (i := 13) (N := some 43) (Zaz HT_.out HW_.out (by kernel_rfl)) hHeld ?_
      refine Za8 (i := 18) (N := some 48) (Zaz HT_.out HW_.out (by kernel_rfl)) hHeld ?_
      refine Za8 (i := 22) (N := some 52) (Zaz HT_.out HW_.out (by kernel_rfl)) hHeld ?_
      refine one_ (i := 14) (N := some 44) #[true, true, true, true, true, true, true, true, true, true, true, true, true, true, true, true, true, true, true, true, true, true, true, false, false, false, false] rfl rfl (Za9 HT_.out (by kernel_rfl)) (by decide) (fun K hK => ?_)
      refine Zb6 Tryd.func35 (by kernel_rfl) rfl #[.slice az (Zae m c).length aA, .slice aB (Zae m j).length aC] (by rfl) rfl rfl (by (try simp only [List.map_toArray, List.map_cons, List.map_nil]); first | done | (simp only [J.1, J.2, L.1, L.2]; rfl) | rfl | (simp only [List.length_drop, List.length_take]; rfl)) ?_
      with_reducible refine (Zbm.calls k2 _ _ (Zae m c) _ _ (Zae m j) bm _ ?side1 ?side2 ?side3 ?side4 dr.out).mono ?_
      (case side1 => exact cP (by repeat (first | (with_reducible exact p.out) | (with_reducible refine yI ?_ _) | (with_reducible refine yK ?_ _) | (with_reducible refine yJ ?_) | exact p.out)))
      (case side2 => exact bo.out)
      (case side3 => exact cP (by repeat (first | (with_reducible exact q.out) | (with_reducible refine yI ?_ _) | (with_reducible refine yK ?_ _) | (with_reducible refine yJ ?_) | exact q.out)))
      (case side4 => exact bp.out)
      rintro e eB ⟨dL, rfl, v, hb⟩
      have aH := (hb.cell (World.block_lt_of_cell? _ _ (hHeld.2.2.1))).trans (hHeld.2.2.1)
      have aI := (hb.cell (World.block_lt_of_cell? _ _ (hHeld.2.2.2.1))).trans (hHeld.2.2.2.1)
      have aJ := (hb.cell (World.block_lt_of_cell? _ _ (hHeld.2.2.2.2.1))).trans (hHeld.2.2.2.2.1)
      have aK := (hb.cell (World.block_lt_of_cell? _ _ (hHeld.2.2.2.2.2))).trans (hHeld.2.2.2.2.2)
      refine ⟨_, rfl, ?_⟩
      replace l := mA (xA (by (with_reducible repeat (first | apply zM | apply zN | apply zL)); exact l.out) (zH v) hb)
      replace d := mA (yX (by (with_reducible repeat (first | apply zX | apply zY | apply zV)); exact d.out) (zH v) hb)
      replace D := mA (yX (by (with_reducible repeat (first | apply zX | apply zY | apply zV)); exact D.out) (zH v) hb)
      replace E := mA (yX (by (with_reducible repeat (first | apply zX | apply zY | apply zV)); exact E.out) (zH v) hb)
      have al := mA (zP (yP (M := fun k_ => (w.heap.size ≤ k_)) v (Zag (bW)) (fun k_ h_ => h_)) (Zag (bW)))
      replace a := mA (blkB a.out hb)
      replace b := mA (blkB b.out hb)
      replace p := mA (zF (by repeat (first | (with_reducible exact p.out) | (with_reducible refine yI ?_ _) | (with_reducible refine yK ?_ _) | (with_reducible refine yJ ?_) | exact p.out)) hb)
      replace q := mA (zF (by repeat (first | (with_reducible exact q.out) | (with_reducible refine yI ?_ _) | (with_reducible refine yK ?_ _) | (with_reducible refine yJ ?_) | exact q.out)) hb)
      replace HB := mA (Zac (bW) hb)
      have nr_ := mA (yO z.out hb); clear z; have z := nr_; clear nr_
      have nr_ := mA (yO A.out hb); clear A; have A := nr_; clear nr_
      have nr_ := mA (zF r.out hb); clear r; have r := nr_; clear nr_
      have nr_ := mA (zF s.out hb); clear s; have s := nr_; clear nr_
      (try clear hb)
      (try clear hb2)
      (try clear hk)
      (try clear hi)
      (try clear v)
      refine hK.out _ _ ⟨bc a 0, bc a 1, aH, aI, aJ, aK⟩ (fun hHeld => ?_)
      clear hK K
      refine putS 44 ?_
      refine one_ (i := 23) (N := some 53) #[true, true, true, true, true, true, true, true, true, true, true, true, true, true, true, true, true, true, true, true, true, true, true, true, false, false, false] rfl rfl (Za9 HT_.out (by kernel_rfl)) (by decide) (fun K hK => ?_)
      refine Zb6 Tryd.func35 (by kernel_rfl) rfl #[.slice aD (Zae m j).length aE, .slice aF (Zae m c).length aG] (by rfl) rfl rfl (by (try simp only [List.map_toArray, List.map_cons, List.map_nil]); first | done | (simp only [J.1, J.2, L.1, L.2]; rfl) | rfl | (simp only [List.length_drop, List.length_take]; rfl)) ?_
      with_reducible refine (Zbm.calls k2 _ _ (Zae m j) _ _ (Zae m c) bn _ ?side1 ?side2 ?side3 ?side4 dt.out).mono ?_
      (case side1 => exact cP (by repeat (first | (with_reducible exact r.out) | (with_reducible refine yI ?_ _) | (with_reducible refine yK ?_ _) | (with_reducible refine yJ ?_) | exact r.out)))
      (case side2 => exact bq.out)
      (case side3 => exact cP (by repeat (first | (with_reducible exact s.out) | (with_reducible refine yI ?_ _) | (with_reducible refine yK ?_ _) | (with_reducible refine yJ ?_) | exact s.out)))
      (case side4 => exact br.out)
      rintro e eC ⟨dM, rfl, v, hb⟩
      have aH := (hb.cell (World.block_lt_of_cell? _ _ (hHeld.2.2.1))).trans (hHeld.2.2.1)
      have aI := (hb.cell (World.block_lt_of_cell? _ _ (hHeld.2.2.2.1))).trans (hHeld.2.2.2.1)
      have aJ := (hb.cell (World.block_lt_of_cell? _ _ (hHeld.2.2.2.2.1))).trans (hHeld.2.2.2.2.1)
      have aK := (hb.cell (World.block_lt_of_cell? _ _ (hHeld.2.2.2.2.2))).trans (hHeld.2.2.2.2.2)
      refine ⟨_, rfl, ?_⟩
      replace l := mA (xA (by (with_reducible repeat (first | apply zM | apply zN | apply zL)); exact l.out) (zH v) hb)
      replace d := mA (yX (by (with_reducible repeat (first | apply zX | apply zY | apply zV)); exact d.out) (zH v) hb)
      replace D := mA (yX (by (with_reducible repeat (first | apply zX | apply zY | apply zV)); exact D.out) (zH v) hb)
      replace E := mA (yX (by (with_reducible repeat (first | apply zX | apply zY | apply zV)); exact E.out) (zH v) hb)
      replace z := mA (yX (by (with_reducible repeat (first | apply zX | apply zY | apply zV)); exact z.out) (zH v) hb)
      replace A := mA (yX (by (with_reducible repeat (first | apply zX | apply zY | apply zV)); exact A.out) (zH v) hb)
      have a2 := mA (zP (zS (yP (M := fun k_ => (w.heap.size ≤ k_)) v (Zag (bW)) (fun k_ h_ => h_)) (zG (rP al.out))) (Zag (bW)))
      replace al := mA (zR (rP al.out) (zH v) hb)
      replace a := mA (blkB a.out hb)
      replace b := mA (blkB b.out hb)
      replace p := mA (zF (by repeat (first | (with_reducible exact p.out) | (with_reducible refine yI ?_ _) | (with_reducible refine yK ?_ _) | (with_reducible refine yJ ?_) | exact p.out)) hb)
      replace q := mA (zF (by repeat (first | (with_reducible exact q.out) | (with_reducible refine yI ?_ _) | (with_reducible refine yK ?_ _) | (with_reducible refine yJ ?_) | exact q.out)) hb)
      replace r := mA (zF (by repeat (first | (with_reducible exact r.out) | (with_reducible refine yI ?_ _) | (with_reducible refine yK ?_ _) | (with_reducible refine yJ ?_) | exact r.out)) hb)
      replace s := mA (zF (by repeat (first | (with_reducible exact s.out) | (with_reducible refine yI ?_ _) | (with_reducible refine yK ?_ _) | (with_reducible refine yJ ?_) | exact s.out)) hb)
      replace HB := mA (Zac (bW) hb)
      (try clear hb)
      (try clear hb2)
      (try clear hk)
      (try clear hi)
      (try clear v)
      obtain ⟨dN, dO, c0⟩ := zJ al.out
      (first | subst c0 | (injection c0 with ax ba ay; have bb := ax.symm; have bd := ay.symm; clear ax ba ay; subst bb; subst bd))
      obtain ⟨dP, dQ, c1⟩ := zJ a2.out
      (first | subst c1 | (injection c1 with ax ba ay; have bb := ax.symm; have bd := ay.symm; clear ax ba ay; subst bb; subst bd))
      refine hK.out _ _ ⟨bc a 0, bc a 1, aH, aI, aJ, aK⟩ (fun hHeld => ?_)
      clear hK K
      refine putS 53 ?_
      refine one_ (i := 24) (N := some 54) #[true, true, true, true, true, true, true, true, true, true, true, true, true, true, true, true, true, true, true, true, true, true, true, true, true, false, false] rfl rfl (Za9 HT_.out (by kernel_rfl)) (by decide) (fun K hK => ?_)
      refine Zb6 Tryd.func34 (by kernel_rfl) rfl #[.slice dN bm.length dO, .slice dP bn.length dQ] (by rfl) rfl rfl (by (try simp only [List.map_toArray, List.map_cons, List.map_nil]); first | done | (simp only [J.1, J.2, L.1, L.2]; rfl) | rfl | (simp only [List.length_drop, List.length_take]; rfl)) ?_
      with_reducible refine (Za6.calls k2 _ _ bm _ _ bn false _ ?side1 ?side2 ?side3 ?side4 du.out).mono ?_
      (case side1 => exact cP ((zE al.out).2.2))
      (case side2 => exact (zE al.out).2.1)
      (case side3 => exact cP ((zE a2.out).2.2))
      (case side4 => exact (zE a2.out).2.1)
      rintro e w' ⟨rfl, ⟨nd, rfl⟩⟩
      refine ⟨_, rfl, ?_⟩
      refine hK.out _ _ ⟨bc a 0, bc a 1, hHeld.2.2.1, hHeld.2.2.2.1, hHeld.2.2.2.2.1, hHeld.2.2.2.2.2⟩ (fun hHeld => ?_)
      clear hK K
      refine putS 54 ?_
      refine Zan (i := 25) (N := some 55) (Zai HT_.out (by kernel_rfl)) ?_
      refine Zan (i := 26) (N := some 56) (Zai HT_.out (by kernel_rfl)) ?_
      refine Zcz (Zct HT_.out (by kernel_rfl)) ?_
      try go_wp2
      go_ret2
      exact ⟨eW, bW⟩
     subst ce
     rw [if_pos rfl] at H
     have H' := mA H
     clear H
     try go_wp2
     replace l := mA (zL l.out)
     replace d := mA (zV d.out)
     replace a := mA (Zad a.out)
     replace b := mA (Zad b.out)
     replace HB := mA (Za0 HB.out)
     have aU : 0 ≤ (c : Int) := ofD
     have aV : c < (m.length : Int) := ofD
     (try (obtain ⟨Az_, cz_, ez_⟩ := yW l.out; subst ez_))
     obtain ⟨ac, az, aA, b2, ad, aL, aM⟩ := Zch (yR l.out).2.2 c aU aV
     cases b2
     obtain ⟨dk, bz, bA, a6⟩ := Kd.N_get l.out [] c aU (by first | exact aV | exact ofD | (have e_ := (yR l.out).1; omega))
     obtain ⟨cF, cG, rfl, am, an⟩ := xX bA
     have ae := a6 0 _ rfl
     rw [Nat.add_zero, show ((Kd.slice 2 (Kd.int .i64))).sz = 1 from rfl, Nat.mul_one] at ae
     replace ae := Option.some.inj (ae.symm.trans ad)
     injection ae with hva_ hvn_ hvc_
     rw [hva_] at an
     rw [hvc_] at am
     have D := mA (show Kd.V (Kd.int .i64) 2 _ w.heap.size _ _ (Zae m c) from Kd.V_mk am an)
     clear hva_ hvn_ hvc_ an am a6 bz
     have p := mA aM
     have bo := mA aL
     clear aM aL
     replace aU := eq_true aU
     replace aV := eq_true aV
     have aW : 0 ≤ (j : Int) := ofD
     have aX : j < (m.length : Int) := ofD
     (try (obtain ⟨Az_, cz_, ez_⟩ := yW l.out; subst ez_))
     obtain ⟨bR, aB, aC, b3, af, aN, aO⟩ := Zch (yR l.out).2.2 j aW aX
     obtain rfl : ac = bR := (by injection b3)
     obtain ⟨dl, bB, bC, a7⟩ := Kd.N_get l.out [] j aW (by first | exact aX | exact ofD | (have e_ := (yR l.out).1; omega))
     obtain ⟨cH, cI, rfl, ao, ap⟩ := xX bC
     have ag := a7 0 _ rfl
     rw [Nat.add_zero, show ((Kd.slice 2 (Kd.int .i64))).sz = 1 from rfl, Nat.mul_one] at ag
     replace ag := Option.some.inj (ag.symm.trans af)
     injection ag with hva_ hvn_ hvc_
     rw [hva_] at ap
     rw [hvc_] at ao
     have E := mA (show Kd.V (Kd.int .i64) 2 _ w.heap.size _ _ (Zae m j) from Kd.V_mk ao ap)
     clear hva_ hvn_ hvc_ ap ao a7 bB
     have q := mA aO
     have bp := mA aN
     clear aO aN
     replace aW := eq_true aW
     replace aX := eq_true aX
     have aY : 0 ≤ (j : Int) := ofD
     have aZ : j < (m.length : Int) := ofD
     (try (obtain ⟨Az_, cz_, ez_⟩ := yW l.out; subst ez_))
     obtain ⟨bS, aD, aE, b4, ah, aP, aQ⟩ := Zch (yR l.out).2.2 j aY aZ
     obtain rfl : ac = bS := (by injection b4)
     (try (have J : aD = aB ∧ aE = aC := (by have e_ := ah.symm.trans af; simpa using e_)))
     obtain ⟨dm, bD, bF, a8⟩ := Kd.N_get l.out [] j aY (by first | exact aZ | exact ofD | (have e_ := (yR l.out).1; omega))
     obtain ⟨cJ, cK, rfl, aq, ar⟩ := xX bF
     have ai := a8 0 _ rfl
     rw [Nat.add_zero, show ((Kd.slice 2 (Kd.int .i64))).sz = 1 from rfl, Nat.mul_one] at ai
     replace ai := Option.some.inj (ai.symm.trans ah)
     injection ai with hva_ hvn_ hvc_
     rw [hva_] at ar
     rw [hvc_] at aq
     have z := mA (show Kd.V (Kd.int .i64) 2 _ w.heap.size _ _ (Zae m j) from Kd.V_mk aq ar)
     clear hva_ hvn_ hvc_ ar aq a8 bD
     have r := mA aQ
     have bq := mA aP
     clear aQ aP
     replace aY := eq_true aY
     replace aZ := eq_true aZ
     have a0 : 0 ≤ (c : Int) := ofD
     have a1 : c < (m.length : Int) := ofD
     (try (obtain ⟨Az_, cz_, ez_⟩ := yW l.out; subst ez_))
     obtain ⟨bT, aF, aG, b5, aj, aR, aS⟩ := Zch (yR l.out).2.2 c a0 a1
     obtain rfl : ac = bT := (by injection b5)
     (try (have L : aF = az ∧ aG = aA := (by have e_ := aj.symm.trans ad; simpa using e_)))
     obtain ⟨dn, bG, bH, a9⟩ := Kd.N_get l.out [] c a0 (by first | exact a1 | exact ofD | (have e_ := (yR l.out).1; omega))
     obtain ⟨cL, cM, rfl, au, av⟩ := xX bH
     have ak := a9 0 _ rfl
     rw [Nat.add_zero, show ((Kd.slice 2 (Kd.int .i64))).sz = 1 from rfl, Nat.mul_one] at ak
     replace ak := Option.some.inj (ak.symm.trans aj)
     injection ak with hva_ hvn_ hvc_
     rw [hva_] at av
     rw [hvc_] at au
     have A := mA (show Kd.V (Kd.int .i64) 2 _ w.heap.size _ _ (Zae m c) from Kd.V_mk au av)
     clear hva_ hvn_ hvc_ av au a9 bG
     have s := mA aS
     have br := mA aR
     clear aS aR
     replace a0 := eq_true a0
     replace a1 := eq_true a1
     refine Zcq (n := 27) (S := fun w' => w'.cell? ⟨u, 0, none⟩ = some (.int .i64 G) ∧ w'.cell? ⟨u, 1, none⟩ = some (.slice X I.length Y) ∧ w'.cell? (ac.add (c).toNat) = some (.slice az (Zae m c).length aA) ∧ w'.cell? (ac.add (j).toNat) = some (.slice aB (Zae m j).length aC) ∧ w'.cell? (ac.add (j).toNat) = some (.slice aD (Zae m j).length aE) ∧ w'.cell? (ac.add (c).toNat) = some (.slice aF (Zae m c).length aG)) (ds := []) #[false, false, false, false, false, false, false, false, false, false, false, false, false, false, false, false, false, false, false, false, false, false, false, false, false, false, false] (by kernel_rfl) rfl rfl ⟨bc a 0, bc a 1, ad, af, ah, aj⟩ (fun hHeld => ?_); refine Zb7 Zas.tab11 Zas.bits11 (fun HT_ HW_ => ?_)
     generalize wr.drew = w40 at l d a b HB D E z A p q r s ad af ah aj hHeld ⊢
     refine Zan (i := 1) (N := some 31) (Zai HT_.out (by kernel_rfl)) ?_
     refine Zan (i := 2) (N := some 32) (Zai HT_.out (by kernel_rfl)) ?_
     refine Za8 (i := 0) (N := some 30) (Zaz HT_.out HW_.out (by kernel_rfl)) hHeld ?_
     refine one_ (i := 3) (N := some 33) #[true, true, true, true, false, false, false, false, false, false, false, false, false, false, false, false, false, false, false, false, false, false, false, false, false, false, false] rfl rfl (Za9 HT_.out (by kernel_rfl)) (by decide) (fun K hK => ?_)
     refine Zb6 Tryd.func33 (by kernel_rfl) rfl #[.agg #[.int .i64 G, .slice X I.length Y], .int .i64 c, .int .i64 j] (by rfl) rfl rfl (by (try simp only [List.map_toArray, List.map_cons, List.map_nil]); first | done | (simp only [J.1, J.2, L.1, L.2]; rfl) | rfl | (simp only [List.length_drop, List.length_take]; rfl)) ?_
     with_reducible refine (Zdj.calls G _ _ I c j false _ ?side1 ?side2 cV.out).mono ?_
     (case side1 => exact cP (zF bi.out HB.out))
     (case side2 => exact bj.out)
     rintro e eD ⟨rfl, hb⟩
     have aH := (hb.cell (World.block_lt_of_cell? _ _ (hHeld.2.2.1))).trans (hHeld.2.2.1)
     have aI := (hb.cell (World.block_lt_of_cell? _ _ (hHeld.2.2.2.1))).trans (hHeld.2.2.2.1)
     have aJ := (hb.cell (World.block_lt_of_cell? _ _ (hHeld.2.2.2.2.1))).trans (hHeld.2.2.2.2.1)
     have aK := (hb.cell (World.block_lt_of_cell? _ _ (hHeld.2.2.2.2.2))).trans (hHeld.2.2.2.2.2)
     refine ⟨_, rfl, ?_⟩
     replace l := mA (xN (by (with_reducible repeat (first | apply zM | apply zN | apply zL)); exact l.out) hb)
     replace d := mA (yO (by (with_reducible repeat (first | apply zX | apply zY | apply zV)); exact d.out) hb)
     replace a := mA (blkB a.out hb)
     replace b := mA (blkB b.out hb)
     replace HB := mA (Zac (bW) hb)
     have nr_ := mA (yO D.out hb); clear D; have D := nr_; clear nr_
     have nr_ := mA (yO E.out hb); clear E; have E := nr_; clear nr_
     have nr_ := mA (yO z.out hb); clear z; have z := nr_; clear nr_
     have nr_ := mA (yO A.out hb); clear A; have A := nr_; clear nr_
     have nr_ := mA (zF p.out hb); clear p; have p := nr_; clear nr_
     have nr_ := mA (zF q.out hb); clear q; have q := nr_; clear nr_
     have nr_ := mA (zF r.out hb); clear r; have r := nr_; clear nr_
     have nr_ := mA (zF s.out hb); clear s; have s := nr_; clear nr_
     (try clear hb)
     (try clear hb2)
     (try clear hk)
     (try clear hi)
     obtain ⟨en, eo, da⟩ := yW l.out
     (first | subst da | (injection da with ax ba ay; have bb := ax.symm; have bd := ay.symm; clear ax ba ay; subst bb; subst bd))
     refine hK.out _ _ ⟨bc a 0, bc a 1, aH, aI, aJ, aK⟩ (fun hHeld => ?_)
     clear hK K
     refine putS 33 ?_
     refine Zan (i := 4) (N := some 34) (Zai HT_.out (by kernel_rfl)) ?_
     refine Zan (i := 5) (N := some 35) (Zai HT_.out (by kernel_rfl)) ?_
     refine Zan (i := 6) (N := some 36) (Zai HT_.out (by kernel_rfl)) ?_
     refine Zan (i := 7) (N := some 37) (Zai HT_.out (by kernel_rfl)) ?_
     refine Zan (i := 8) (N := some 38) (Zai HT_.out (by kernel_rfl)) ?_
     refine Zan (i := 10) (N := some 40) (Zai HT_.out (by kernel_rfl)) ?_
     refine Zan (i := 11) (N := some 41) (Zai HT_.out (by kernel_rfl)) ?_
     refine Zan (i := 12) (N := some 42) (Zai HT_.out (by kernel_rfl)) ?_
     refine Zan (i := 15) (N := some 45) (Zai HT_.out (by kernel_rfl)) ?_
     refine Zan (i := 16) (N := some 46) (Zai HT_.out (by kernel_rfl)) ?_
     refine Zan (i := 17) (N := some 47) (Zai HT_.out (by kernel_rfl)) ?_
     refine Zan (i := 19) (N := some 49) (Zai HT_.out (by kernel_rfl)) ?_
     refine Zan (i := 20) (N := some 50) (Zai HT_.out (by kernel_rfl)) ?_
     refine Zan (i := 21) (N := some 51) (Zai HT_.out (by kernel_rfl)) ?_
     refine Za8 (i := 9) (N := some 39) (Zaz HT_.out HW_.out (by kernel_rfl)) hHeld ?_
     refine Za8 (i := 13) (N := some 43) (Zaz HT_.out HW_.out (by kernel_rfl)) hHeld ?_
     refine Za8 (i := 18) (N := some 48) (Zaz HT_.out HW_.out (by kernel_rfl)) hHeld ?_
     refine Za8 (i := 22) (N := some 52) (Zaz HT_.out HW_.out (by kernel_rfl)) hHeld ?_
     refine one_ (i := 14) (N := some 44) #[true, true, true, true, true, true, true, true, true, true, true, true, true, true, true, true, true, true, true, true, true, true, true, false, false, false, false] rfl rfl (Za9 HT_.out (by kernel_rfl)) (by decide) (fun K hK => ?_)
     refine Zb6 Tryd.func35 (by kernel_rfl) rfl #[.slice az (Zae m c).length aA, .slice aB (Zae m j).length aC] (by rfl) rfl rfl (by (try simp only [List.map_toArray, List.map_cons, List.map_nil]); first | done | (simp only [J.1, J.2, L.1, L.2]; rfl) | rfl | (simp only [List.length_drop, List.length_take]; rfl)) ?_
     with_reducible refine (Zbm.calls k2 _ _ (Zae m c) _ _ (Zae m j) bm _ ?side1 ?side2 ?side3 ?side4 dr.out).mono ?_
     (case side1 => exact cP (by repeat (first | (with_reducible exact p.out) | (with_reducible refine yI ?_ _) | (with_reducible refine yK ?_ _) | (with_reducible refine yJ ?_) | exact p.out)))
     (case side2 => exact bo.out)
     (case side3 => exact cP (by repeat (first | (with_reducible exact q.out) | (with_reducible refine yI ?_ _) | (with_reducible refine yK ?_ _) | (with_reducible refine yJ ?_) | exact q.out)))
     (case side4 => exact bp.out)
     rintro e eE ⟨dL, rfl, v, hb⟩
     have aH := (hb.cell (World.block_lt_of_cell? _ _ (hHeld.2.2.1))).trans (hHeld.2.2.1)
     have aI := (hb.cell (World.block_lt_of_cell? _ _ (hHeld.2.2.2.1))).trans (hHeld.2.2.2.1)
     have aJ := (hb.cell (World.block_lt_of_cell? _ _ (hHeld.2.2.2.2.1))).trans (hHeld.2.2.2.2.1)
     have aK := (hb.cell (World.block_lt_of_cell? _ _ (hHeld.2.2.2.2.2))).trans (hHeld.2.2.2.2.2)
     refine ⟨_, rfl, ?_⟩
     replace l := mA (xA (by (with_reducible repeat (first | apply zM | apply zN | apply zL)); exact l.out) (zH v) hb)
     replace d := mA (yX (by (with_reducible repeat (first | apply zX | apply zY | apply zV)); exact d.out) (zH v) hb)
     replace D := mA (yX (by (with_reducible repeat (first | apply zX | apply zY | apply zV)); exact D.out) (zH v) hb)
     replace E := mA (yX (by (with_reducible repeat (first | apply zX | apply zY | apply zV)); exact E.out) (zH v) hb)
     have al := mA (zP (yP (M := fun k_ => (w.heap.size ≤ k_)) v (Zag (bW)) (fun k_ h_ => h_)) (Zag (bW)))
     replace a := mA (blkB a.out hb)
     replace b := mA (blkB b.out hb)
     replace p := mA (zF (by repeat (first | (with_reducible exact p.out) | (with_reducible refine yI ?_ _) | (with_reducible refine yK ?_ _) | (with_reducible refine yJ ?_) | exact p.out)) hb)
     replace q := mA (zF (by repeat (first | (with_reducible exact q.out) | (with_reducible refine yI ?_ _) | (with_reducible refine yK ?_ _) | (with_reducible refine yJ ?_) | exact q.out)) hb)
     replace HB := mA (Zac (bW) hb)
     have nr_ := mA (yO z.out hb); clear z; have z := nr_; clear nr_
     have nr_ := mA (yO A.out hb); clear A; have A := nr_; clear nr_
     have nr_ := mA (zF r.out hb); clear r; have r := nr_; clear nr_
     have nr_ := mA (zF s.out hb); clear s; have s := nr_; clear nr_
     (try clear hb)
     (try clear hb2)
     (try clear hk)
     (try clear hi)
     (try clear v)
     refine hK.out _ _ ⟨bc a 0, bc a 1, aH, aI, aJ, aK⟩ (fun hHeld => ?_)
     clear hK K
     refine putS 44 ?_
     refine one_ (i := 23) (N := some 53) #[true, true, true, true, true, true, true, true, true, true, true, true, true, true, true, true, true, true, true, true, true, true, true, true, false, false, false] rfl rfl (Za9 HT_.out (by kernel_rfl)) (by decide) (fun K hK => ?_)
     refine Zb6 Tryd.func35 (by kernel_rfl) rfl #[.slice aD (Zae m j).length aE, .slice aF (Zae m c).length aG] (by rfl) rfl rfl (by (try simp only [List.map_toArray, List.map_cons, List.map_nil]); first | done | (simp only [J.1, J.2, L.1, L.2]; rfl) | rfl | (simp only [List.length_drop, List.length_take]; rfl)) ?_
     with_reducible refine (Zbm.calls k2 _ _ (Zae m j) _ _ (Zae m c) bn _ ?side1 ?side2 ?side3 ?side4 dt.out).mono ?_
     (case side1 => exact cP (by repeat (first | (with_reducible exact r.out) | (with_reducible refine yI ?_ _) | (with_reducible refine yK ?_ _) | (with_reducible refine yJ ?_) | exact r.out)))
     (case side2 => exact bq.out)
     (case side3 => exact cP (by repeat (first | (with_reducible exact s.out) | (with_reducible refine yI ?_ _) | (with_reducible refine yK ?_ _) | (with_reducible refine yJ ?_) | exact s.out)))
     (case side4 => exact br.out)
     rintro e eF ⟨dM, rfl, v, hb⟩
     have aH := (hb.cell (World.block_lt_of_cell? _ _ (hHeld.2.2.1))).trans (hHeld.2.2.1)
     have aI := (hb.cell (World.block_lt_of_cell? _ _ (hHeld.2.2.2.1))).trans (hHeld.2.2.2.1)
     have aJ := (hb.cell (World.block_lt_of_cell? _ _ (hHeld.2.2.2.2.1))).trans (hHeld.2.2.2.2.1)
     have aK := (hb.cell (World.block_lt_of_cell? _ _ (hHeld.2.2.2.2.2))).trans (hHeld.2.2.2.2.2)
     refine ⟨_, rfl, ?_⟩
     replace l := mA (xA (by (with_reducible repeat (first | apply zM | apply zN | apply zL)); exact l.out) (zH v) hb)
     replace d := mA (yX (by (with_reducible repeat (first | apply zX | apply zY | apply zV)); exact d.out) (zH v) hb)
     replace D := mA (yX (by (with_reducible repeat (first | apply zX | apply zY | apply zV)); exact D.out) (zH v) hb)
     replace E := mA (yX (by (with_reducible repeat (first | apply zX | apply zY | apply zV)); exact E.out) (zH v) hb)
     replace z := mA (yX (by (with_reducible repeat (first | apply zX | apply zY | apply zV)); exact z.out) (zH v) hb)
     replace A := mA (yX (by (with_reducible repeat (first | apply zX | apply zY | apply zV)); exact A.out) (zH v) hb)
     have a2 := mA (zP (zS (yP (M := fun k_ => (w.heap.size ≤ k_)) v (Zag (bW)) (fun k_ h_ => h_)) (zG (rP al.out))) (Zag (bW)))
     replace al := mA (zR (rP al.out) (zH v) hb)
     replace a := mA (blkB a.out hb)
     replace b := mA (blkB b.out hb)
     replace p := mA (zF (by repeat (first | (with_reducible exact p.out) | (with_reducible refine yI ?_ _) | (with_reducible refine yK ?_ _) | (with_reducible refine yJ ?_) | exact p.out)) hb)
     replace q := mA (zF (by repeat (first | (with_reducible exact q.out) | (with_reducible refine yI ?_ _) | (with_reducible refine yK ?_ _) | (with_reducible refine yJ ?_) | exact q.out)) hb)
     replace r := mA (zF (by repeat (first | (with_reducible exact r.out) | (with_reducible refine yI ?_ _) | (with_reducible refine yK ?_ _) | (with_reducible refine yJ ?_) | exact r.out)) hb)
     replace s := mA (zF (by repeat (first | (with_reducible exact s.out) | (with_reducible refine yI ?_ _) | (with_reducible refine yK ?_ _) | (with_reducible refine yJ ?_) | exact s.out)) hb)
     replace HB := mA (Zac (bW) hb)
     (try clear hb)
     (try clear hb2)
     (try clear hk)
     (try clear hi)
     (try clear v)
     obtain ⟨dR, dS, db⟩ := zJ al.out
     (first | subst db | (injection db with ax ba ay; have bb := ax.symm; have bd := ay.symm; clear ax ba ay; subst bb; subst bd))
     obtain ⟨dU, dV, dc⟩ := zJ a2.out
     (first | subst dc | (injection dc with ax ba ay; have bb := ax.symm; have bd := ay.symm; clear ax ba ay; subst bb; subst bd))
     refine hK.out _ _ ⟨bc a 0, bc a 1, aH, aI, aJ, aK⟩ (fun hHeld => ?_)
     clear hK K
     refine putS 53 ?_
     refine one_ (i := 24) (N := some 54) #[true, true, true, true, true, true, true, true, true, true, true, true, true, true, true, true, true, true, true, true, true, true, true, true, true, false, false] rfl rfl (Za9 HT_.out (by kernel_rfl)) (by decide) (fun K hK => ?_)
     refine Zb6 Tryd.func34 (by kernel_rfl) rfl #[.slice dR bm.length dS, .slice dU bn.length dV] (by rfl) rfl rfl (by (try simp only [List.map_toArray, List.map_cons, List.map_nil]); first | done | (simp only [J.1, J.2, L.1, L.2]; rfl) | rfl | (simp only [List.length_drop, List.length_take]; rfl)) ?_
     with_reducible refine (Za6.calls k2 _ _ bm _ _ bn true _ ?side1 ?side2 ?side3 ?side4 du.out).mono ?_
     (case side1 => exact cP ((zE al.out).2.2))
     (case side2 => exact (zE al.out).2.1)
     (case side3 => exact cP ((zE a2.out).2.2))
     (case side4 => exact (zE a2.out).2.1)
     rintro e w' ⟨rfl, ⟨nd, rfl⟩⟩
     refine ⟨_, rfl, ?_⟩
     refine hK.out _ _ ⟨bc a 0, bc a 1, hHeld.2.2.1, hHeld.2.2.2.1, hHeld.2.2.2.2.1, hHeld.2.2.2.2.2⟩ (fun hHeld => ?_)
     clear hK K
     refine putS 54 ?_
     refine Zan (i := 25) (N := some 55) (Zai HT_.out (by kernel_rfl)) ?_
     refine Zan (i := 26) (N := some 56) (Zai HT_.out (by kernel_rfl)) ?_
     refine Zcz (Zct HT_.out (by kernel_rfl)) ?_
     try go_wp2
     go_roundg k2
     case measure => have := bI.out; have := bK.out; omega
     case rel => exact ⟨(wrap64 (j + 1)), (eW), H', ⟨by have := bI.out; have := bK.out; omega⟩, ⟨by (with_reducible repeat (first | apply zM | apply zN | apply zL)); exact yB l.out (fun _ hk => ⟨hk.1.1.1, ⟨hk.1.1.2.1, hk.1.1.2.2⟩⟩)⟩, ⟨by (with_reducible repeat (first | apply zX | apply zY | apply zV)); exact yS d.out (fun _ hk => ⟨hk.1.1.1, ⟨hk.1.1.2.1, ⟨hk.1.1.2.2.1, hk.1.1.2.2.2⟩⟩⟩)⟩, ⟨bP a.out⟩, ⟨bP b.out⟩, ⟨bW⟩⟩
end Go.Proofs.YtgindgodfcfgkaaDoor.P
end M0
