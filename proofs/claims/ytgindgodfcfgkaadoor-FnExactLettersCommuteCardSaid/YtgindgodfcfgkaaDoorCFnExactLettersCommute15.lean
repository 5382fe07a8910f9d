import Derived.Test.YtgindgodfcfgkaaDoorCFnExactLettersCommute12
import Derived.Test.YtgindgodfcfgkaaDoorCFnExactLettersCommute14
section M0
namespace Go.Proofs.YtgindgodfcfgkaaDoor.P
open Go.RowKit Go.Proofs.YtgindgodfcfgkaaDoor.Sh Go.Proofs.YtgindgodfcfgkaaDoorW.PrintWords Go.Proofs.YtgindgodfcfgkaaDoorW.PrintLast Go.Proofs.YtgindgodfcfgkaaDoorW.PrintMore
open Kd
attribute [local go_sem] Zcd Zca Zcn Zcm Zb1 Zb2 Zcc Zce   -- for this text's walks alone
set_option linter.unusedVariables false
set_option linter.unusedSimpArgs false
mutual
def Zal.l0 : Nat → List Int → List Int → Int → Int → Int → List Bool → List (List Int) → List (Int × Int) → Int → Int → List Bool → List (List Int) → Option (Int × Int × List Bool × (List (List Int)))
 | 0, _, _, _, _, _, _, _, _, _, _, _, _ => none
 | k + 1, x4, x6, x8, a, g, h, i, j, b, c, d, e => if x8 < (x6.length : Int) then (Zal.l1 k x4 x6 x8 (([] : List Int)) a 0 a g h i j b c d e) else (some (b, c, d, e))
def Zal.l1 : Nat → List Int → List Int → Int → List Int → Int → Int → Int → Int → List Bool → List (List Int) → List (Int × Int) → Int → Int → List Bool → List (List Int) → Option (Int × Int × List Bool × (List (List Int)))
 | 0, _, _, _, _, _, _, _, _, _, _, _, _, _, _, _ => none
 | k + 1, x4, x6, x8, x9, m, c, g, h, b, a, i, j, l, d, e => if c < m then (if 0 ≤ x8 then (if x8 < (x6.length : Int) then (if 0 ≤ (rd x6 x8) then (if (rd x6 x8) < (a.length : Int) then (if 0 ≤ c then (if c < ((Zae a (rd x6 x8)).length : Int) then (if (rd (Zae a (rd x6 x8)) c) < 0 then (Zal.j2 k x4 x6 x8 x9 (rd (Zae a (rd x6 x8)) c) m c true g h b a i j l d e) else (if 0 ≤ (rd (Zae a (rd x6 x8)) c) then (if (rd (Zae a (rd x6 x8)) c) < (x4.length : Int) then (Zal.j2 k x4 x6 x8 x9 (rd (Zae a (rd x6 x8)) c) m c (decide ((rd x4 (rd (Zae a (rd x6 x8)) c)) < 0)) g h b a i j l d e) else (none)) else (none))) else (none)) else (none)) else (none)) else (none)) else (none)) else (none)) else ((some (([x9] : List (List Int)) : List (List Int))).bind fun n => (if e.length + n.length < 5864062014805 then (if 0 ≤ x8 then (if x8 < (x6.length : Int) then (if 0 ≤ (rd x6 x8) then (if (rd x6 x8) < (b.length : Int) then ((some (([rdOf false b (rd x6 x8)] : List Bool) : List Bool)).bind fun o => (if d.length + o.length < 140737488355328 then (Zal.l0 k x4 x6 (wrap64 (x8 + 1)) g h b a i j l (d ++ o) (e ++ n)) else (none))) else (none)) else (none)) else (none)) else (none)) else (none)))
def Zal.j2 : Nat → List Int → List Int → Int → List Int → Int → Int → Int → Bool → Int → Int → List Bool → List (List Int) → List (Int × Int) → Int → Int → List Bool → List (List Int) → Option (Int × Int × List Bool × (List (List Int)))
 | 0, _, _, _, _, _, _, _, _, _, _, _, _, _, _, _, _, _ => none
 | k + 1, x4, x6, x8, x9, l, m, n, s, b, c, d, e, a, g, h, i, j => if s = true then ((some (([(-1)] : List Int) : List Int)).bind fun o => (if x9.length + o.length < 17592186044416 then (Zal.l1 k x4 x6 x8 (x9 ++ o) m (wrap64 (n + 1)) b c d e a g h i j) else (none))) else (if 0 ≤ l then (if l < (x4.length : Int) then (if (mhas a (rd x4 l) = true) then ((some (([mget 0 a (rd x4 l)] : List Int) : List Int)).bind fun p => (if x9.length + p.length < 17592186044416 then (Zal.l1 k x4 x6 x8 (x9 ++ p) m (wrap64 (n + 1)) b c d e a g h i j) else (none))) else ((some (([l] : List Int) : List Int)).bind fun q => (if x6.length + q.length < 17592186044416 then ((some (([(x6.length : Int)] : List Int) : List Int)).bind fun r => (if x9.length + r.length < 17592186044416 then (Zal.l1 k x4 (x6 ++ q) x8 (x9 ++ r) m (wrap64 (n + 1)) b c d e (mset a (rd x4 l) (x6.length : Int)) g h i j) else (none))) else (none)))) else (none)) else (none))
end
def Zal.f (k : Nat) (c : Int) (a : Int) (d : List Bool) (e : List (List Int)) : Option (Int × Int × List Bool × (List (List Int))) := (Zak.f k c a d e).bind fun g => (if 0 ≤ a then (if a < (g.length : Int) then (if rdOf false g a = true then ((Zam.f k c a d e g).bind fun h => (if a < (h.length : Int) then (Zal.l0 k h (([a] : List Int)) 0 c a d e (mset ([] : List (Int × Int)) (rd h a) 0) c 0 ([] : List Bool) ([] : List (List Int))) else (none))) else ((Zds.f c).bind fun b => (some (b.1, b.2.1, b.2.2.1, b.2.2.2)))) else (none)) else (none))
def Zal.T5 : Bool × List (List Nat × List Nat) := (true, [([], []), ([], []), ([], []), ([2], [2]), ([1, 3], [1, 3]), ([4], [4]), ([0, 5], [0, 5]), ([0, 1, 2, 3, 4, 5, 6], [0]), ([], []), ([8], [8]), ([9], [9]), ([7, 0, 1, 2, 3, 4, 5, 6, 7], [7]), ([10, 11, 0, 1, 2, 3, 4, 5, 6, 7, 8, 9, 10, 11], [10])])
def Zal.B5 : List Nat := [0, 0, 0, 4, 14, 30, 63, 127, 0, 256, 768, 255, 4095]
theorem Zal.tab5 : rtab .any (opsOf Tryd.f31 5) = Zal.T5 := by kernel_rfl
theorem Zal.bits5 : Zc0 Zal.T5.2 Zal.B5 = true := by kernel_rfl
def Zal.T14 : Bool × List (List Nat × List Nat) := (true, [([], []), ([0], [0]), ([], []), ([], []), ([2, 3], [2, 3]), ([4], [4]), ([1, 5], [1, 5]), ([6], [6]), ([], []), ([7, 8], [7, 8]), ([9], [9]), ([10, 0, 1, 2, 3, 4, 5, 6, 7, 8, 9, 10], [10])])
def Zal.B14 : List Nat := [0, 1, 0, 0, 12, 28, 63, 127, 0, 511, 1023, 2047]
theorem Zal.tab14 : rtab .any (opsOf Tryd.f31 14) = Zal.T14 := by kernel_rfl
theorem Zal.bits14 : Zc0 Zal.T14.2 Zal.B14 = true := by kernel_rfl
def Zal.T24 : Bool × List (List Nat × List Nat) := (true, [([], []), ([0], [0]), ([], []), ([2], [2]), ([1, 3], [1, 3]), ([], []), ([5], [5]), ([], []), ([7], [7]), ([], []), ([], []), ([9, 10], [9, 10]), ([11], [11]), ([8, 12], [8, 12]), ([13], [13]), ([14], [14]), ([6, 15, 4], [6, 15]), ([0, 1, 2, 3, 4, 5, 6], []), ([17, 4, 16, 0, 1, 2, 3, 4, 5, 6], [4, 17]), ([0, 1, 2, 3, 4, 5, 6, 7, 8, 9, 10, 11, 12, 13, 14, 15, 16, 17, 18], []), ([19, 16, 18, 0, 1, 2, 3, 4, 5, 6, 7, 8, 9, 10, 11, 12, 13, 14, 15, 16, 17, 18], [16, 19])])
def Zal.B24 : List Nat := [0, 1, 0, 4, 15, 0, 32, 0, 128, 0, 0, 1536, 3584, 8064, 16256, 32640, 65535, 127, 262143, 524287, 1048575]
theorem Zal.tab24 : rtab .any (opsOf Tryd.f31 24) = Zal.T24 := by kernel_rfl
theorem Zal.bits24 : Zc0 Zal.T24.2 Zal.B24 = true := by kernel_rfl
set_option maxHeartbeats 8000000 in
set_option maxRecDepth 100000 in
theorem Zal.calls (k : Nat) (D : Int) (I : Int) (an : Option Addr) (ae : Nat) (T : List Bool) (aj : Option Addr) (af : Nat) (B : List (List Int)) (r1 : Int) (r2 : Int) (r3 : List Bool) (r4 : List (List Int)) (w : World) (dU : Kd.C Kd.bool w an T.length T) (dV : T.length ≤ ae) (dW : Kd.C (Kd.slice 2 (Kd.int .i64)) w aj B.length B) (dX : B.length ≤ af) (h : Zal.f k D I T B = some (r1, r2, r3, r4)) :
  Calls Tryd.prog 31 #[.agg #[.int .i64 D, .int .i64 I, .slice an T.length ae, .slice aj B.length af]] w fun e w' => ∃ fg gb : Value, e = .returned (.agg #[.int .i64 r1, .int .i64 r2, fg, gb]) ∧ Kd.R Kd.bool 4 w' w.heap.size (fun k_ => (w.heap.size ≤ k_)) fg r3 ∧ Kd.N (Kd.slice 2 (Kd.int .i64)) 22 w' w.heap.size (fun k_ => (w.heap.size ≤ k_) ∧ some k_ ≠ (fg : Value).ownBlock) gb r4 ∧ Below w.heap.size w w' := by
 have iM := Tryd.underlying48
 have b1 := mA dU
 have cq := mA dV
 clear dU dV
 have b2 := mA dW
 have cr := mA dX
 clear dW dX
 have HB := mA (Below.refl w.heap.size w)
 unfold Zal.f at h
 have H := h
 clear h
 replace H := bE H
 obtain ⟨aU, gc, H⟩ := H
 have A2 := mA gc
 clear gc
 by_cases c3 : 0 ≤ I; rotate_left
 ·rw [if_neg c3] at H
  exact absurd H (by simp)
 rw [if_pos c3] at H
 have gl := dT c3
 clear c3
 by_cases c4 : I < (aU.length : Int); rotate_left
 ·rw [if_neg c4] at H
  exact absurd H (by simp)
 rw [if_pos c4] at H
 have gm := dT c4
 clear c4
 obtain ⟨hR, dx⟩ : ∃ b_ : Bool, b_ = (rdOf false aU I) := ⟨_, rfl⟩
 rw [← dx] at H
 have dy := mA dx
 clear dx
 by_cases c6 : hR = true; rotate_left
 ·replace c6 := Bool.eq_false_iff.mpr c6
  subst c6
  rw [iF] at H
  replace H := bE H
  obtain ⟨⟨bz, bN, b8, ct⟩, A1110, H⟩ := H
  try dsimp only at H
  have gn := mA A1110
  clear A1110
  simp only [Option.some.injEq, Prod.mk.injEq] at H
  obtain ⟨rfl, rfl, rfl, rfl⟩ := H
  go_enter Tryd.func31, Tryd.ntmps31
  go_wp2_with (first | ((with_reducible refine Zap (N := 1) rfl ?_); refine boxS (N := 1) (cs := #[.int .i64 D, .int .i64 I, .slice an T.length ae, .slice aj B.length af]) (t := 48) ?_; intro u hg iN hbox hb; have a := mA (hbox); have fA := geW (w := w) hg; have fB := geW (w := w) hg; replace HB := mA (Zac (bW) hb); clear hb hbox hg) | ((with_reducible refine Zap (N := 2) rfl ?_); refine boxS (N := 2) (cs := #[.int .i64 0, .int .i64 0, .slice none 0 0, .slice none 0 0]) (t := 48) ?_; intro x hg iO hbox hb; have l := mA (hbox); have fC := geW (w := w) hg; have fD := geW (w := w) hg; replace HB := mA (Zac (bW) hb); have aW := mA (neB hg a); have aX := mA (neC hg a); replace a := mA (blkB a.out hb); clear hb hbox hg; have hS := aW.out; have hT := aX.out; obtain ⟨gp, gq, gr, gs⟩ := Zbi a.out; obtain ⟨gu, gv, gw, gx⟩ := frz4 a.out) | ((with_reducible refine Zav (f := 50) rfl ?_); refine Zbo (some 15) Tryd.func50 #[.agg #[.int .i64 D, .int .i64 I, .slice an T.length ae, .slice aj B.length af]] ?_; (with_reducible refine (Zak.calls k D I _ _ T _ _ B aU _ ?side1 ?side2 ?side3 ?side4 A2.out).mono ?_); (case side1 => exact cP (zF b1.out HB.out)); (case side2 => exact cq.out); (case side3 => exact cP (zF b2.out HB.out)); (case side4 => exact cr.out); rintro e iP ⟨gy, rfl, bk, hb⟩; refine ⟨_, rfl, ?_⟩; have Y := mA (zP (yP (M := fun k_ => (w.heap.size ≤ k_)) bk (Zag (bW)) (fun k_ h_ => h_)) (Zag (bW))); replace a := mA (blkB a.out hb); replace l := mA (blkB l.out hb); replace HB := mA (Zac (bW) hb); (try clear hb); (try clear hb2); (try clear hk); (try clear hi); (try clear bk); obtain ⟨gz, gA, gB, gC⟩ := Zbi a.out; obtain ⟨gD, gE, gF, gG⟩ := frz4 a.out; obtain ⟨ic, fE, fF⟩ := zJ Y.out; subst fF; have bl : 0 ≤ (I : Int) := ofD; have bm : I < (aU.length : Int) := ofD; obtain ⟨bG, dz, bs⟩ := yF (zE Y.out).2.2 I bl bm; (try rw [← dy.out] at bs); cases dz; replace bl := eq_true bl; replace bm := eq_true bm) | ((with_reducible refine Zav (f := 51) rfl ?_); refine Zbo (some 24) Tryd.func51 #[.int .i64 D] ?_; (with_reducible refine (Zds.calls D bz bN b8 ct _ gn.out).mono ?_); rintro e iQ ⟨gH, iR, rfl, bk, gf, hb⟩; refine ⟨_, rfl, ?_⟩; have dY := mA (zP (zS (yP (M := fun k_ => (w.heap.size ≤ k_)) (zB (ok' := fun k_ => True) bk (fun _ hk_ => trivial)) (Zag (bW)) (fun k_ h_ => h_)) (zG (rP Y.out))) (Zag (bW))); have dZ := mA (xW (yB (ok' := fun k_ => (w.heap.size ≤ k_) ∧ some k_ ≠ (gH : Value).ownBlock ∧ some k_ ≠ (.slice (some bG) aU.length fE : Value).ownBlock ∧ k_ ≠ u ∧ k_ ≠ x) gf (fun k_ hk_ => ⟨(Nat.le_trans (Zag (bW)) hk_.1), hk_.2, (zT (zG (rP Y.out)) k_ hk_.1), (yG (g := u) (o := .cells #[.int .i64 D, .int .i64 I, .slice an T.length ae, .slice aj B.length af] 48 (0, 0)) (bP a.out) k_ hk_.1), (yG (g := x) (o := .cells #[.int .i64 0, .int .i64 0, .slice none 0 0, .slice none 0 0] 48 (0, 0)) (bP l.out) k_ hk_.1)⟩)) (Zag (bW))); replace Y := mA (zR (rP Y.out) (zH bk) hb); replace a := mA (blkB a.out hb); replace l := mA (blkB l.out hb); replace HB := mA (Zac (bW) hb); (try clear hb); (try clear hb2); (try clear hk); (try clear hi); (try clear bk); (try clear gf); obtain ⟨gI, gJ, gK, gL⟩ := Zbi l.out; obtain ⟨gM, gN, gO, gP⟩ := frz4 l.out; obtain ⟨b3, b4, fG⟩ := zJ dY.out; subst fG; obtain ⟨cu, cv, fH⟩ := yW dZ.out; subst fH))
  refine bodyPost_ret (results_cell_row rfl _ _ x 48 #[.int .i64 bz, .int .i64 bN, .slice b3 b8.length b4, .slice cu ct.length cv] (0, 0) _ rfl (by (with_reducible repeat (first | refine Zaj ?_ _ | refine Zad ?_ | refine Zaf ?_ _)); refine Za3 (cs := #[.int .i64 bz, .int .i64 bN, .slice b3 b8.length b4, .slice none 0 0]) ?_ 3 _ rfl; (with_reducible repeat (first | refine Zaj ?_ _ | refine Zad ?_ | refine Zaf ?_ _)); refine Za3 (cs := #[.int .i64 bz, .int .i64 bN, .slice none 0 0, .slice none 0 0]) ?_ 2 _ rfl; (with_reducible repeat (first | refine Zaj ?_ _ | refine Zad ?_ | refine Zaf ?_ _)); refine Za3 (cs := #[.int .i64 bz, .int .i64 0, .slice none 0 0, .slice none 0 0]) ?_ 1 _ rfl; (with_reducible repeat (first | refine Zaj ?_ _ | refine Zad ?_ | refine Zaf ?_ _)); refine Za3 (cs := #[.int .i64 0, .int .i64 0, .slice none 0 0, .slice none 0 0]) ?_ 0 _ rfl; exact bP l.out) Tryd.underlying48 rfl (by kernel_rfl)) rfl ?_
  exact ⟨_, _, eW, by (with_reducible repeat (first | apply zC | apply zD | apply zA)); exact zB (zQ (p := ⟨x, 3, none⟩) (zQ (p := ⟨x, 2, none⟩) (zQ (p := ⟨x, 1, none⟩) (zQ (p := ⟨x, 0, none⟩) (yA dY.out l.out (by decide)) (fun _ hk => hk.2) (.int .i64 bz)) (fun _ hk => hk.2) (.int .i64 bN)) (fun _ hk => hk.2) (.slice b3 b8.length b4)) (fun _ hk => hk.2) (.slice cu ct.length cv)) (fun _ hk => hk.1.1.1), by (with_reducible repeat (first | apply zM | apply zN | apply zL)); exact yB (xF (p := ⟨x, 3, none⟩) (xF (p := ⟨x, 2, none⟩) (xF (p := ⟨x, 1, none⟩) (xF (p := ⟨x, 0, none⟩) (yB dZ.out (fun k_ hk => (⟨hk, hk.2.2.2.2⟩ : _ ∧ k_ ≠ x))) (fun _ hk => hk.2) (.int .i64 bz)) (fun _ hk => hk.2) (.int .i64 bN)) (fun _ hk => hk.2) (.slice b3 b8.length b4)) (fun _ hk => hk.2) (.slice cu ct.length cv)) (fun _ hk => ⟨hk.1.1, hk.1.2.1⟩), bW⟩
 subst c6
 rw [if_pos rfl] at H
 replace H := bE H
 obtain ⟨z, gg, H⟩ := H
 have A7 := mA gg
 clear gg
 by_cases c8 : I < (z.length : Int); rotate_left
 ·rw [if_neg c8] at H
  exact absurd H (by simp)
 rw [if_pos c8] at H
 have gQ := dT c8
 clear c8
 obtain ⟨dA, cw⟩ : ∃ y_ : List Int, y_ = (([I] : List Int)) := ⟨_, rfl⟩
 rw [← cw] at H
 have bu := mA cw
 clear cw
 have H' := mA H
 clear H
 go_enter Tryd.func31, Tryd.ntmps31
 try go_wp2_with (first | ((with_reducible refine Zap (N := 1) rfl ?_); refine boxS (N := 1) (cs := #[.int .i64 D, .int .i64 I, .slice an T.length ae, .slice aj B.length af]) (t := 48) ?_; intro u hg w9 hbox hb; have a := mA (hbox); have fA := geW (w := w) hg; have fB := geW (w := w) hg; replace HB := mA (Zac (bW) hb); clear hb hbox hg) | ((with_reducible refine Zap (N := 2) rfl ?_); refine boxS (N := 2) (cs := #[.int .i64 0, .int .i64 0, .slice none 0 0, .slice none 0 0]) (t := 48) ?_; intro x hg i9 hbox hb; have l := mA (hbox); have fC := geW (w := w) hg; have fD := geW (w := w) hg; replace HB := mA (Zac (bW) hb); have aW := mA (neB hg a); have aX := mA (neC hg a); replace a := mA (blkB a.out hb); clear hb hbox hg; have ie := aW.out; have ig := aX.out; obtain ⟨ev, ew, ey, ez⟩ := Zbi a.out; obtain ⟨eA, eB, eC, eD⟩ := frz4 a.out) | ((with_reducible refine Zav (f := 50) rfl ?_); refine Zbo (some 15) Tryd.func50 #[.agg #[.int .i64 D, .int .i64 I, .slice an T.length ae, .slice aj B.length af]] ?_; (with_reducible refine (Zak.calls k D I _ _ T _ _ B aU _ ?side1 ?side2 ?side3 ?side4 A2.out).mono ?_); (case side1 => exact cP (zF b1.out HB.out)); (case side2 => exact cq.out); (case side3 => exact cP (zF b2.out HB.out)); (case side4 => exact cr.out); rintro e ja ⟨gy, rfl, bk, hb⟩; refine ⟨_, rfl, ?_⟩; have Y := mA (zP (yP (M := fun k_ => (w.heap.size ≤ k_)) bk (Zag (bW)) (fun k_ h_ => h_)) (Zag (bW))); replace a := mA (blkB a.out hb); replace l := mA (blkB l.out hb); replace HB := mA (Zac (bW) hb); (try clear hb); (try clear hb2); (try clear hk); (try clear hi); (try clear bk); obtain ⟨eE, eF, eG, eH⟩ := Zbi a.out; obtain ⟨eI, eJ, eL, eM⟩ := frz4 a.out; obtain ⟨iS, dB, gR⟩ := zJ Y.out; subst gR; have bl : 0 ≤ (I : Int) := ofD; have bm : I < (aU.length : Int) := ofD; obtain ⟨bG, dz, bs⟩ := yF (zE Y.out).2.2 I bl bm; (try rw [← dy.out] at bs); cases dz; replace bl := eq_true bl; replace bm := eq_true bm) | ((with_reducible refine Zav (f := 52) rfl ?_); refine Zbo (some 27) Tryd.func52 #[.agg #[.int .i64 D, .int .i64 I, .slice an T.length ae, .slice aj B.length af], .slice (some bG) aU.length dB] ?_; (with_reducible refine (Zam.calls k D I _ _ T _ _ B _ _ aU z _ ?side1 ?side2 ?side3 ?side4 ?side5 ?side6 A7.out).mono ?_); (case side1 => exact cP (zF b1.out HB.out)); (case side2 => exact cq.out); (case side3 => exact cP (zF b2.out HB.out)); (case side4 => exact cr.out); (case side5 => exact cP ((zE Y.out).2.2)); (case side6 => exact (zE Y.out).2.1); rintro e hU ⟨iT, rfl, bk, hb⟩; refine ⟨_, rfl, ?_⟩; replace Y := mA (zK (rP Y.out) hb); have ad := mA (zP (yP (M := fun k_ => (w.heap.size ≤ k_)) bk (Zag (bW)) (fun k_ h_ => h_)) (Zag (bW))); replace a := mA (blkB a.out hb); replace l := mA (blkB l.out hb); replace HB := mA (Zac (bW) hb); (try clear hb); (try clear hb2); (try clear hk); (try clear hi); (try clear bk)))
 replace Y := mA (zA Y.out)
 replace ad := mA (zA ad.out)
 replace a := mA (Zad a.out)
 replace l := mA (Zad l.out)
 replace HB := mA (Za0 HB.out)
 obtain ⟨iU, W, fh⟩ := zJ ad.out
 (first | subst fh | (injection fh with aq aH ar; have aI := aq.symm; have aJ := ar.symm; clear aq aH ar; subst aI; subst aJ))
 have cx : 0 ≤ (I : Int) := ofD
 have cy : I < (z.length : Int) := ofD
 obtain ⟨E, gS, bO⟩ := zI (zE ad.out).2.2 I cx cy
 cases gS
 replace cx := eq_true cx
 replace cy := eq_true cy
 refine Zcq (n := 13) (S := fun w' => w'.cell? ⟨u, 0, none⟩ = some (.int .i64 D) ∧ w'.cell? ⟨u, 1, none⟩ = some (.int .i64 I) ∧ w'.cell? ⟨u, 2, none⟩ = some (.slice an T.length ae) ∧ w'.cell? ⟨u, 3, none⟩ = some (.slice aj B.length af) ∧ w'.cell? (E.add (I).toNat) = some (.int .i64 (rd z I))) (ds := []) #[false, false, false, false, false, false, false, false, false, false, false, false, false] (by kernel_rfl) rfl rfl ⟨bc a 0, bc a 1, bc a 2, bc a 3, bO⟩ (fun hHeld => ?_); refine Zb7 Zal.tab5 Zal.bits5 (fun HT_ HW_ => ?_)
 generalize hU.drew = w17 at Y ad a l HB bO hHeld ⊢
 refine Zan (i := 1) (N := some 29) (Zai HT_.out (by kernel_rfl)) ?_
 refine Zan (i := 2) (N := some 30) (Zai HT_.out (by kernel_rfl)) ?_
 refine Zan (i := 8) (N := some 35) (Zai HT_.out (by kernel_rfl)) ?_
 refine Za8 (i := 3) (N := some 31) (Zaz HT_.out HW_.out (by kernel_rfl)) hHeld ?_
 refine Zan (i := 4) (N := some 32) (Zai HT_.out (by kernel_rfl)) ?_
 refine Za8 (i := 5) (N := some 33) (Zaz HT_.out HW_.out (by kernel_rfl)) hHeld ?_
 refine Za8 (i := 9) (N := some 36) (Zaz HT_.out HW_.out (by kernel_rfl)) hHeld ?_
 refine join_ (σ := Nat × Value) 1 #[true, true, true, true, true, true, true, true, true, true, true, true, false] (fun s_ => [(28, .map (some s_.1)), (37, s_.2), (34, .map (some s_.1)), (5, .map (some s_.1))]) (fun s_ w' => (w'.cell? ⟨u, 0, none⟩ = some (.int .i64 D) ∧ w'.cell? ⟨u, 1, none⟩ = some (.int .i64 I) ∧ w'.cell? ⟨u, 2, none⟩ = some (.slice an T.length ae) ∧ w'.cell? ⟨u, 3, none⟩ = some (.slice aj B.length af) ∧ w'.cell? (E.add (I).toNat) = some (.int .i64 (rd z I))) ∧ (Kd.R Kd.bool 4 w' w.heap.size (fun k_ => (w.heap.size ≤ k_)) (.slice (some bG) aU.length dB) aU) ∧ (Kd.R (Kd.int .i64) 2 w' w.heap.size (fun k_ => (w.heap.size ≤ k_) ∧ some k_ ≠ (s_.2 : Value).ownBlock) (.slice (some E) z.length W) z) ∧ (Kd.R (Kd.int .i64) 2 w' w.heap.size (fun k_ => (w.heap.size ≤ k_) ∧ some k_ ≠ (.slice (some E) z.length W : Value).ownBlock) s_.2 dA) ∧ (w'.heap[u]? = some (.cells #[.int .i64 D, .int .i64 I, .slice an T.length ae, .slice aj B.length af] 48 (0, 0))) ∧ (w'.heap[x]? = some (.cells #[.int .i64 0, .int .i64 0, .slice none 0 0, .slice none 0 0] 48 (0, 0))) ∧ (w'.heap[s_.1]? = some (mobj (Value.int .i64) (Value.int .i64) (mset ([] : List (Int × Int)) (rd z I) 0))) ∧ (w.heap.size ≤ s_.1) ∧ (w.heap.size ≤ s_.1) ∧ (u ≠ s_.1) ∧ (s_.1 ≠ u) ∧ (x ≠ s_.1) ∧ (s_.1 ≠ x) ∧ (Below w.heap.size w w')) ?_ ?_
 rotate_left
 ·intro hCont
  refine two_ (i := 0) (j := 10) (Ni := some 28) (Nj := some 37) #[true, true, true, true, true, true, false, false, true, true, false, false, false] #[false, true, true, true, true, true, false, false, true, true, true, false, false] rfl rfl rfl rfl (two_of HT_.out (by kernel_rfl)) (by decide) (by decide) (fun K hK => ?_) (fun K hK => ?_); rotate_left
  ·skip
   refine xP (Kd.int .i64) _ 2 ?hg (N := 37) ?hd (xs := ([I] : List Int)) (inner := [.int .i64 I]) (ok := fun _ => True) (okp := fun _ => True) ?hr ?hp (fun _ hk => hk) trivial (Below.refl _ _) (Nat.le_refl _) (by simp) ?_; (case hd => rfl); (case hg => rfl); (case hr => first | (go_simp; done) | (go_simp; rfl)); (case hp => exact (Reps.one (show Kd.M (Kd.int .i64) _ _ _ I [.int .i64 I] from rfl) (Reps.none _ _)))
   intro bn hV bQ hb hg_ hnew_
   have aM := (hb.cell (World.block_lt_of_cell? _ _ (hHeld.2.2.2.2))).trans (hHeld.2.2.2.2)
   clear hg_ hnew_
   (first | rw [← bu.out] at bQ | (simp only [Int.reduceToNat] at bQ; rw [← bu.out] at bQ))
   replace Y := mA (zK (rP Y.out) hb)
   have aC := mA (zP (zS (yP (M := fun k_ => (w.heap.size ≤ k_)) bQ (Zag (bW)) (fun k_ h_ => h_)) (zG (rP ad.out))) (Zag (bW)))
   replace ad := mA (zR (rP ad.out) (zH bQ) hb)
   replace a := mA (blkB a.out hb)
   replace l := mA (blkB l.out hb)
   replace HB := mA (Zac (bW) hb)
   clear hb bQ
   refine hK.out _ _ ⟨bc a 0, bc a 1, bc a 2, bc a 3, aM⟩ (fun hHeld => ?_)
   clear hK K
   refine putS 37 ?_
   refine one_ (i := 0) (N := some 28) #[true, true, true, true, true, true, false, false, true, true, true, false, false] rfl rfl (Za9 HT_.out (by kernel_rfl)) (by decide) (fun K hK => ?_)
   refine mapS_step (Value.int .i64) (Value.int .i64) (by rfl) ?_
   intro G hg hW hbox hb
   have aM := (hb.cell (World.block_lt_of_cell? _ _ (hHeld.2.2.2.2))).trans (hHeld.2.2.2.2)
   replace Y := mA (zK (rP Y.out) hb)
   replace ad := mA (zK (rP ad.out) hb)
   replace aC := mA (zK (rP aC.out) hb)
   have s := mA (hbox)
   have bH := geW (w := w) hg
   have a2 := geW (w := w) hg
   replace HB := mA (Zac (bW) hb)
   have ao := mA (neB hg a)
   have aE := mA (neC hg a)
   replace a := mA (blkB a.out hb)
   have au := mA (neB hg l)
   have aQ := mA (neC hg l)
   replace l := mA (blkB l.out hb)
   clear hb hbox hg
   refine hK.out _ _ ⟨bc a 0, bc a 1, bc a 2, bc a 3, aM⟩ (fun hHeld => ?_)
   clear hK K
   refine putS 28 ?_
   refine one_ (i := 6) (N := none) #[true, true, true, true, true, true, true, false, true, true, true, false, false] rfl rfl (Za9 HT_.out (by kernel_rfl)) (by decide) (fun K hK => ?_)
   refine msetS_step (eK := (Value.int .i64)) (eV := (Value.int .i64)) (g := G) (L := ([] : List (Int × Int))) (rd z I) 0 (by rfl) (mkey_int .i64) (bP s.out) Tryd.underlying75 Tryd.underlying2 ?_
   intro hX hbk hg
   have aM := cell_mset hg (bP s.out) (hHeld.2.2.2.2)
   replace a := mA (Zaq (g := u) (o := .cells #[.int .i64 D, .int .i64 I, .slice an T.length ae, .slice aj B.length af] 48 (0, 0)) (bP a.out) hg (fun e_ => ao.out (Option.some.inj e_)))
   replace l := mA (Zaq (g := x) (o := .cells #[.int .i64 0, .int .i64 0, .slice none 0 0, .slice none 0 0] 48 (0, 0)) (bP l.out) hg (fun e_ => au.out (Option.some.inj e_)))
   replace Y := mA (Kd.R_mset (rP Y.out) (bP s.out) hg)
   replace ad := mA (Kd.R_mset (rP ad.out) (bP s.out) hg)
   replace aC := mA (Kd.R_mset (rP aC.out) (bP s.out) hg)
   replace s := mA (hbk)
   replace HB := mA ((fun h_ => Below.grown h_ hg h_.size (fun k_ e_ => by injection e_ with e_; rw [← e_]; exact a2.out)) (bW))
   clear hg hbk
   refine hK.out _ _ ⟨bc a 0, bc a 1, bc a 2, bc a 3, aM⟩ (fun hHeld => ?_)
   clear hK K
   refine Zan (i := 7) (N := some 34) (Zai HT_.out (by kernel_rfl)) ?_
   refine Zan (i := 11) (N := some 5) (Zai HT_.out (by kernel_rfl)) ?_
   exact norm_ (by simp only [putAll, Act.put, List.setIfInBounds_toArray, List.set_cons_zero, List.set_cons_succ]) (hCont (G, bn) _ ⟨hHeld, (by (with_reducible repeat (first | apply zC | apply zD | apply zA)); exact zB Y.out (fun _ hk => hk.1)), (by (with_reducible repeat (first | apply zC | apply zD | apply zA)); exact zB ad.out (fun _ hk => ⟨hk.1.1, hk.2⟩)), (by (with_reducible repeat (first | apply zC | apply zD | apply zA)); exact zB aC.out (fun _ hk => ⟨hk.1.1, hk.2⟩)), (bP a.out), (bP l.out), (bP s.out), bH.out, a2.out, ao.out, aE.out, au.out, aQ.out, (bW)⟩)
  skip
  refine mapS_step (Value.int .i64) (Value.int .i64) (by rfl) ?_
  intro G hg hV hbox hb
  have aM := (hb.cell (World.block_lt_of_cell? _ _ (hHeld.2.2.2.2))).trans (hHeld.2.2.2.2)
  replace Y := mA (zK (rP Y.out) hb)
  replace ad := mA (zK (rP ad.out) hb)
  have s := mA (hbox)
  have bH := geW (w := w) hg
  have a2 := geW (w := w) hg
  replace HB := mA (Zac (bW) hb)
  have ao := mA (neB hg a)
  have aE := mA (neC hg a)
  replace a := mA (blkB a.out hb)
  have au := mA (neB hg l)
  have aQ := mA (neC hg l)
  replace l := mA (blkB l.out hb)
  clear hb hbox hg
  refine hK.out _ _ ⟨bc a 0, bc a 1, bc a 2, bc a 3, aM⟩ (fun hHeld => ?_)
  clear hK K
  refine putS 28 ?_
  refine two_ (i := 6) (j := 10) (Ni := none) (Nj := some 37) #[true, true, true, true, true, true, true, false, true, true, false, false, false] #[true, true, true, true, true, true, false, false, true, true, true, false, false] rfl rfl rfl rfl (two_of HT_.out (by kernel_rfl)) (by decide) (by decide) (fun K hK => ?_) (fun K hK => ?_)
  ·skip
   refine msetS_step (eK := (Value.int .i64)) (eV := (Value.int .i64)) (g := G) (L := ([] : List (Int × Int))) (rd z I) 0 (by rfl) (mkey_int .i64) (bP s.out) Tryd.underlying75 Tryd.underlying2 ?_
   intro hY hbk hg
   have aM := cell_mset hg (bP s.out) (hHeld.2.2.2.2)
   replace a := mA (Zaq (g := u) (o := .cells #[.int .i64 D, .int .i64 I, .slice an T.length ae, .slice aj B.length af] 48 (0, 0)) (bP a.out) hg (fun e_ => ao.out (Option.some.inj e_)))
   replace l := mA (Zaq (g := x) (o := .cells #[.int .i64 0, .int .i64 0, .slice none 0 0, .slice none 0 0] 48 (0, 0)) (bP l.out) hg (fun e_ => au.out (Option.some.inj e_)))
   replace Y := mA (Kd.R_mset (rP Y.out) (bP s.out) hg)
   replace ad := mA (Kd.R_mset (rP ad.out) (bP s.out) hg)
   replace s := mA (hbk)
   replace HB := mA ((fun h_ => Below.grown h_ hg h_.size (fun k_ e_ => by injection e_ with e_; rw [← e_]; exact a2.out)) (bW))
   clear hg hbk
   refine hK.out _ _ ⟨bc a 0, bc a 1, bc a 2, bc a 3, aM⟩ (fun hHeld => ?_)
   clear hK K
   refine Zan (i := 7) (N := some 34) (Zai HT_.out (by kernel_rfl)) ?_
   refine Zan (i := 11) (N := some 5) (Zai HT_.out (by kernel_rfl)) ?_
   refine one_ (i := 10) (N := some 37) #[true, true, true, true, true, true, true, true, true, true, true, true, false] rfl rfl (Za9 HT_.out (by kernel_rfl)) (by decide) (fun K hK => ?_)
   refine xP (Kd.int .i64) _ 2 ?hg (N := 37) ?hd (xs := ([I] : List Int)) (inner := [.int .i64 I]) (ok := fun _ => True) (okp := fun _ => True) ?hr ?hp (fun _ hk => hk) trivial (Below.refl _ _) (Nat.le_refl _) (by simp) ?_; (case hd => rfl); (case hg => rfl); (case hr => first | (go_simp; done) | (go_simp; rfl)); (case hp => exact (Reps.one (show Kd.M (Kd.int .i64) _ _ _ I [.int .i64 I] from rfl) (Reps.none _ _)))
   intro bn hW bR hb hg_ hnew_
   have aM := (hb.cell (World.block_lt_of_cell? _ _ (hHeld.2.2.2.2))).trans (hHeld.2.2.2.2)
   clear hg_ hnew_
   (first | rw [← bu.out] at bR | (simp only [Int.reduceToNat] at bR; rw [← bu.out] at bR))
   replace Y := mA (zK (rP Y.out) hb)
   have aC := mA (zP (zS (yP (M := fun k_ => (w.heap.size ≤ k_)) bR (Zag (bW)) (fun k_ h_ => h_)) (zG (rP ad.out))) (Zag (bW)))
   replace ad := mA (zR (rP ad.out) (zH bR) hb)
   replace a := mA (blkB a.out hb)
   replace l := mA (blkB l.out hb)
   replace s := mA (blkB s.out hb)
   replace HB := mA (Zac (bW) hb)
   clear hb bR
   refine hK.out _ _ ⟨bc a 0, bc a 1, bc a 2, bc a 3, aM⟩ (fun hHeld => ?_)
   clear hK K
   refine putS 37 ?_
   exact norm_ (by simp only [putAll, Act.put, List.setIfInBounds_toArray, List.set_cons_zero, List.set_cons_succ]) (hCont (G, bn) _ ⟨hHeld, (by (with_reducible repeat (first | apply zC | apply zD | apply zA)); exact zB Y.out (fun _ hk => hk.1)), (by (with_reducible repeat (first | apply zC | apply zD | apply zA)); exact zB ad.out (fun _ hk => ⟨hk.1.1, hk.2⟩)), (by (with_reducible repeat (first | apply zC | apply zD | apply zA)); exact zB aC.out (fun _ hk => ⟨hk.1.1, hk.2⟩)), (bP a.out), (bP l.out), (bP s.out), bH.out, a2.out, ao.out, aE.out, au.out, aQ.out, (bW)⟩)
  skip
  refine xP (Kd.int .i64) _ 2 ?hg (N := 37) ?hd (xs := ([I] : List Int)) (inner := [.int .i64 I]) (ok := fun _ => True) (okp := fun _ => True) ?hr ?hp (fun _ hk => hk) trivial (Below.refl _ _) (Nat.le_refl _) (by simp) ?_; (case hd => rfl); (case hg => rfl); (case hr => first | (go_simp; done) | (go_simp; rfl)); (case hp => exact (Reps.one (show Kd.M (Kd.int .i64) _ _ _ I [.int .i64 I] from rfl) (Reps.none _ _)))
  intro bn hY bS hb hg_ hnew_
  have aM := (hb.cell (World.block_lt_of_cell? _ _ (hHeld.2.2.2.2))).trans (hHeld.2.2.2.2)
  clear hg_ hnew_
  (first | rw [← bu.out] at bS | (simp only [Int.reduceToNat] at bS; rw [← bu.out] at bS))
  replace Y := mA (zK (rP Y.out) hb)
  have aC := mA (zP (zS (yP (M := fun k_ => (w.heap.size ≤ k_)) bS (Zag (bW)) (fun k_ h_ => h_)) (zG (rP ad.out))) (Zag (bW)))
  replace ad := mA (zR (rP ad.out) (zH bS) hb)
  replace a := mA (blkB a.out hb)
  replace l := mA (blkB l.out hb)
  replace s := mA (blkB s.out hb)
  replace HB := mA (Zac (bW) hb)
  clear hb bS
  refine hK.out _ _ ⟨bc a 0, bc a 1, bc a 2, bc a 3, aM⟩ (fun hHeld => ?_)
  clear hK K
  refine putS 37 ?_
  refine one_ (i := 6) (N := none) #[true, true, true, true, true, true, true, false, true, true, true, false, false] rfl rfl (Za9 HT_.out (by kernel_rfl)) (by decide) (fun K hK => ?_)
  refine msetS_step (eK := (Value.int .i64)) (eV := (Value.int .i64)) (g := G) (L := ([] : List (Int × Int))) (rd z I) 0 (by rfl) (mkey_int .i64) (bP s.out) Tryd.underlying75 Tryd.underlying2 ?_
  intro hX hbk hg
  have aM := cell_mset hg (bP s.out) (hHeld.2.2.2.2)
  replace a := mA (Zaq (g := u) (o := .cells #[.int .i64 D, .int .i64 I, .slice an T.length ae, .slice aj B.length af] 48 (0, 0)) (bP a.out) hg (fun e_ => ao.out (Option.some.inj e_)))
  replace l := mA (Zaq (g := x) (o := .cells #[.int .i64 0, .int .i64 0, .slice none 0 0, .slice none 0 0] 48 (0, 0)) (bP l.out) hg (fun e_ => au.out (Option.some.inj e_)))
  replace Y := mA (Kd.R_mset (rP Y.out) (bP s.out) hg)
  replace ad := mA (Kd.R_mset (rP ad.out) (bP s.out) hg)
  replace aC := mA (Kd.R_mset (rP aC.out) (bP s.out) hg)
  replace s := mA (hbk)
  replace HB := mA ((fun h_ => Below.grown h_ hg h_.size (fun k_ e_ => by injection e_ with e_; rw [← e_]; exact a2.out)) (bW))
  clear hg hbk
  refine hK.out _ _ ⟨bc a 0, bc a 1, bc a 2, bc a 3, aM⟩ (fun hHeld => ?_)
  clear hK K
  refine Zan (i := 7) (N := some 34) (Zai HT_.out (by kernel_rfl)) ?_
  refine Zan (i := 11) (N := some 5) (Zai HT_.out (by kernel_rfl)) ?_
  exact norm_ (by simp only [putAll, Act.put, List.setIfInBounds_toArray, List.set_cons_zero, List.set_cons_succ]) (hCont (G, bn) _ ⟨hHeld, (by (with_reducible repeat (first | apply zC | apply zD | apply zA)); exact zB Y.out (fun _ hk => hk.1)), (by (with_reducible repeat (first | apply zC | apply zD | apply zA)); exact zB ad.out (fun _ hk => ⟨hk.1.1, hk.2⟩)), (by (with_reducible repeat (first | apply zC | apply zD | apply zA)); exact zB aC.out (fun _ hk => ⟨hk.1.1, hk.2⟩)), (bP a.out), (bP l.out), (bP s.out), bH.out, a2.out, ao.out, aE.out, au.out, aQ.out, (bW)⟩)
 rintro ⟨G, bn⟩ w23 ⟨hS_, db, dc, dd, de, df, dg, dh, di, dj, dk, b9, fi, fj⟩
 have dl : Zaa (Kd.R Kd.bool 4 w23 w.heap.size (fun k_ => (w.heap.size ≤ k_)) (.slice (some bG) aU.length dB) aU) := ⟨db⟩
 have dm : Zaa (Kd.R (Kd.int .i64) 2 w23 w.heap.size (fun k_ => (w.heap.size ≤ k_) ∧ some k_ ≠ (bn : Value).ownBlock) (.slice (some E) z.length W) z) := ⟨dc⟩
 have dn : Zaa (Kd.R (Kd.int .i64) 2 w23 w.heap.size (fun k_ => (w.heap.size ≤ k_) ∧ some k_ ≠ (.slice (some E) z.length W : Value).ownBlock) bn dA) := ⟨dd⟩
 have dp : Zaa (w23.heap[u]? = some (.cells #[.int .i64 D, .int .i64 I, .slice an T.length ae, .slice aj B.length af] 48 (0, 0))) := ⟨de⟩
 have dq : Zaa (w23.heap[x]? = some (.cells #[.int .i64 0, .int .i64 0, .slice none 0 0, .slice none 0 0] 48 (0, 0))) := ⟨df⟩
 have dr : Zaa (w23.heap[G]? = some (mobj (Value.int .i64) (Value.int .i64) (mset ([] : List (Int × Int)) (rd z I) 0))) := ⟨dg⟩
 have dt : Zaa (w.heap.size ≤ G) := ⟨dh⟩
 have du : Zaa (w.heap.size ≤ G) := ⟨di⟩
 have dv : Zaa (u ≠ G) := ⟨dj⟩
 have dw : Zaa (G ≠ u) := ⟨dk⟩
 have ca : Zaa (x ≠ G) := ⟨b9⟩
 have fk : Zaa (G ≠ x) := ⟨fi⟩
 have fl : Zaa (Below w.heap.size w w23) := ⟨fj⟩
 clear Y ad a l HB db dc dd de df dg dh di dj dk b9 fi fj; have Y := dl; have ad := dm; have aC := dn; have a := dp; have l := dq; have s := dr; have bH := dt; have a2 := du; have ao := dv; have aE := dw; have au := ca; have aQ := fk; have HB := fl; clear dl dm dn dp dq dr dt du dv dw ca fk fl
 have hHeld : w23.cell? ⟨u, 0, none⟩ = some (.int .i64 D) ∧ w23.cell? ⟨u, 1, none⟩ = some (.int .i64 I) ∧ w23.cell? ⟨u, 2, none⟩ = some (.slice an T.length ae) ∧ w23.cell? ⟨u, 3, none⟩ = some (.slice aj B.length af) ∧ w23.cell? (E.add (I).toNat) = some (.int .i64 (rd z I)) := hS_
 refine norm_ (a' := ?_) ?_ ?_
 rotate_left
 ·simp only [putAll, Act.put, List.setIfInBounds_toArray, List.set_cons_zero, List.set_cons_succ]
  rfl
 refine Zan (i := 12) (N := some 6) (Zai HT_.out (by kernel_rfl)) ?_
 refine Zcz (Zct HT_.out (by kernel_rfl)) ?_
 have ih := ao.out
 have ii := aE.out
 have eN : w23.cell? ⟨u, 0, none⟩ = some (.int .i64 D) := bc a 0
 have eO : w23.cell? ⟨u, 1, none⟩ = some (.int .i64 I) := bc a 1
 have eP : w23.cell? ⟨u, 2, none⟩ = some (.slice an T.length ae) := bc a 2
 have eQ : w23.cell? ⟨u, 3, none⟩ = some (.slice aj B.length af) := bc a 3
 have eR := Zab a.out 0
 have eS := Zab a.out 1
 have eT := Zab a.out 2
 have eU := Zab a.out 3
 try go_wp2_with (first | ((with_reducible refine Zap (N := 7) rfl ?_); refine boxS (N := 7) (cs := #[.int .i64 0, .int .i64 0, .slice none 0 0, .slice none 0 0]) (t := 48) ?_; intro y hg jb hbox hb; replace Y := mA (zK (rP Y.out) hb); replace ad := mA (zK (rP ad.out) hb); replace aC := mA (zK (rP aC.out) hb); have m := mA (hbox); have ij := geW (w := w) hg; have ik := geW (w := w) hg; replace HB := mA (Zac (bW) hb); have ap := mA (neB hg a); have aY := mA (neC hg a); replace a := mA (blkB a.out hb); have av := mA (neB hg l); have a6 := mA (neC hg l); replace l := mA (blkB l.out hb); have aw := mA (neB hg s); have aZ := mA (neC hg s); replace s := mA (blkB s.out hb); clear hb hbox hg; have il := aY.out; have im := ap.out; have io := a6.out; have ip := av.out; have iq := aZ.out; have ir := aw.out; obtain ⟨eX, eY, eZ, e0⟩ := Zbi m.out; obtain ⟨e1, e2, e3, e4⟩ := frz4 m.out))
 go_loopg [6, 8] k (fun kq v6 v8 w' => ∃ (bT : List Int) (A : Int) (a0 : List (Int × Int)) (q : List Bool) (v : List (List Int)) (ag : Value) (ax : Value), v8 = .int .i64 A ∧ Zaa (Zal.l0 kq z bT A D I T B a0 D 0 q v = some (r1, r2, r3, r4)) ∧ Zaa (kq ≤ k) ∧ Zaa (Kd.R (Kd.int .i64) 2 w' w.heap.size (fun k_ => (w.heap.size ≤ k_) ∧ some k_ ≠ (v6 : Value).ownBlock) (.slice (some E) z.length W) z) ∧ Zaa (Kd.R (Kd.int .i64) 2 w' w.heap.size (fun k_ => (w.heap.size ≤ k_) ∧ some k_ ≠ ((.slice (some E) z.length W) : Value).ownBlock) v6 bT) ∧ Zaa (Kd.R Kd.bool 4 w' w.heap.size (fun k_ => (w.heap.size ≤ k_)) ag q) ∧ Zaa (Kd.N (Kd.slice 2 (Kd.int .i64)) 22 w' w.heap.size (fun k_ => (w.heap.size ≤ k_) ∧ some k_ ≠ ((.slice (some E) z.length W) : Value).ownBlock ∧ some k_ ≠ (v6 : Value).ownBlock ∧ some k_ ≠ (ag : Value).ownBlock ∧ k_ ≠ u ∧ k_ ≠ x ∧ k_ ≠ G ∧ k_ ≠ y) ax v) ∧ Zaa (w'.heap[u]? = some (.cells #[.int .i64 D, .int .i64 I, (.slice an T.length ae), (.slice aj B.length af)] 48 (0, 0))) ∧ Zaa (w'.heap[x]? = some (.cells #[.int .i64 0, .int .i64 0, (.slice none 0 0), (.slice none 0 0)] 48 (0, 0))) ∧ Zaa (w'.heap[G]? = some (mobj (Value.int .i64) (Value.int .i64) a0)) ∧ Zaa (w'.heap[y]? = some (.cells #[.int .i64 D, .int .i64 0, ag, ax] 48 (0, 0))) ∧ Zaa (Below w.heap.size w w'))
 case atStart => exact ⟨(dA), (0), (mset ([] : List (Int × Int)) (rd z I) 0), (([] : List Bool)), (([] : List (List Int))), (.slice none 0 0), (.slice none 0 0), (eW), H', ⟨Nat.le_refl _⟩, ⟨by (with_reducible repeat (first | apply zC | apply zD | apply zA)); exact zB (zQ (p := ⟨y, 3, none⟩) (zQ (p := ⟨y, 2, none⟩) (zQ (p := ⟨y, 1, none⟩) (zQ (p := ⟨y, 0, none⟩) (yA ad.out m.out (by decide)) (fun _ hk => hk.2) (.int .i64 D)) (fun _ hk => hk.2) (.int .i64 0)) (fun _ hk => hk.2) (.slice none 0 0)) (fun _ hk => hk.2) (.slice none 0 0)) (fun _ hk => ⟨hk.1.1, hk.1.2⟩)⟩, ⟨by (with_reducible repeat (first | apply zC | apply zD | apply zA)); exact zB (zQ (p := ⟨y, 3, none⟩) (zQ (p := ⟨y, 2, none⟩) (zQ (p := ⟨y, 1, none⟩) (zQ (p := ⟨y, 0, none⟩) (yA aC.out m.out (by decide)) (fun _ hk => hk.2) (.int .i64 D)) (fun _ hk => hk.2) (.int .i64 0)) (fun _ hk => hk.2) (.slice none 0 0)) (fun _ hk => hk.2) (.slice none 0 0)) (fun _ hk => ⟨hk.1.1, hk.1.2⟩)⟩, ⟨by first | exact xH _ _ _ _ _ | exact Kd.N_nil _ _ _ _ _ | exact Kd.V_nil _ _ _ _ _ | exact Kd.Q_nil _ _ _ _ _ | exact Kd.S_nil _ _ _ _ _⟩, ⟨by first | exact Kd.S_nil _ _ _ _ _ | exact Kd.N_nil _ _ _ _ _ | exact Kd.V_nil _ _ _ _ _ | exact Kd.Q_nil _ _ _ _ _ | exact xH _ _ _ _ _⟩, ⟨by (with_reducible repeat (first | refine Zaj ?_ _ | refine Zad ?_ | refine Zaf ?_ _)); refine Zc4 ?_ ap.out _; (with_reducible repeat (first | refine Zaj ?_ _ | refine Zad ?_ | refine Zaf ?_ _)); refine Zc4 ?_ ap.out _; (with_reducible repeat (first | refine Zaj ?_ _ | refine Zad ?_ | refine Zaf ?_ _)); refine Zc4 ?_ ap.out _; (with_reducible repeat (first | refine Zaj ?_ _ | refine Zad ?_ | refine Zaf ?_ _)); refine Zc4 ?_ ap.out _; exact bP a.out⟩, ⟨by (with_reducible repeat (first | refine Zaj ?_ _ | refine Zad ?_ | refine Zaf ?_ _)); refine Zc4 ?_ av.out _; (with_reducible repeat (first | refine Zaj ?_ _ | refine Zad ?_ | refine Zaf ?_ _)); refine Zc4 ?_ av.out _; (with_reducible repeat (first | refine Zaj ?_ _ | refine Zad ?_ | refine Zaf ?_ _)); refine Zc4 ?_ av.out _; (with_reducible repeat (first | refine Zaj ?_ _ | refine Zad ?_ | refine Zaf ?_ _)); refine Zc4 ?_ av.out _; exact bP l.out⟩, ⟨by (with_reducible repeat (first | refine Zaj ?_ _ | refine Zad ?_ | refine Zaf ?_ _)); refine Zc4 ?_ aw.out _; (with_reducible repeat (first | refine Zaj ?_ _ | refine Zad ?_ | refine Zaf ?_ _)); refine Zc4 ?_ aw.out _; (with_reducible repeat (first | refine Zaj ?_ _ | refine Zad ?_ | refine Zaf ?_ _)); refine Zc4 ?_ aw.out _; (with_reducible repeat (first | refine Zaj ?_ _ | refine Zad ?_ | refine Zaf ?_ _)); refine Zc4 ?_ aw.out _; exact bP s.out⟩, ⟨by (with_reducible repeat (first | refine Zaj ?_ _ | refine Zad ?_ | refine Zaf ?_ _)); refine Za3 (cs := #[.int .i64 D, .int .i64 0, .slice none 0 0, .slice none 0 0]) ?_ 3 _ rfl; (with_reducible repeat (first | refine Zaj ?_ _ | refine Zad ?_ | refine Zaf ?_ _)); refine Za3 (cs := #[.int .i64 D, .int .i64 0, .slice none 0 0, .slice none 0 0]) ?_ 2 _ rfl; (with_reducible repeat (first | refine Zaj ?_ _ | refine Zad ?_ | refine Zaf ?_ _)); refine Za3 (cs := #[.int .i64 D, .int .i64 0, .slice none 0 0, .slice none 0 0]) ?_ 1 _ rfl; (with_reducible repeat (first | refine Zaj ?_ _ | refine Zad ?_ | refine Zaf ?_ _)); refine Za3 (cs := #[.int .i64 0, .int .i64 0, .slice none 0 0, .slice none 0 0]) ?_ 0 _ rfl; exact bP m.out⟩, ⟨bW⟩⟩
 case round =>
  clear H' gl gm gQ ev ew ey ez eE eF eG eH eN eO eP eQ eX eY eZ e0 eA eB eC eD eI eJ eL eM eR eS eT eU e1 e2 e3 e4 bs bO bl cx bm cy
  obtain ⟨bT, A, a0, q, v, ag, ax, rfl, HA, bw, O, P, d, c, a, l, s, m, HB⟩ := hrel
  cases gk with
  | zero => exact absurd HA.out (by simp [Zal.l0])
  | succ k1 =>
   have H := HA.out
   clear HA
   simp only [Zal.l0] at H
   by_cases ch : A < (bT.length : Int); rotate_left
   ·rw [if_neg ch] at H
    have d0 := dF ch
    clear ch
    simp only [Option.some.injEq, Prod.mk.injEq] at H
    obtain ⟨rfl, rfl, rfl, rfl⟩ := H
    obtain ⟨it, iu, fI⟩ := zJ P.out
    subst fI
    have hZ := aY.out
    have h0 := ap.out
    have h1 := a6.out
    have h2 := av.out
    have h3 := aZ.out
    have h4 := aw.out
    have gT : wr.cell? ⟨y, 0, none⟩ = some (.int .i64 D) := bc m 0
    have gU : wr.cell? ⟨y, 1, none⟩ = some (.int .i64 0) := bc m 1
    have gV : wr.cell? ⟨y, 2, none⟩ = some (ag) := bc m 2
    have gW : wr.cell? ⟨y, 3, none⟩ = some (ax) := bc m 3
    have gX := Zab m.out 0
    have gY := Zab m.out 1
    have gZ := Zab m.out 2
    have g0 := Zab m.out 3
    have h5 := aX.out
    have h6 := aW.out
    have h7 := au.out
    have h8 := aQ.out
    have g1 : wr.cell? ⟨x, 0, none⟩ = some (.int .i64 0) := bc l 0
    have g2 : wr.cell? ⟨x, 1, none⟩ = some (.int .i64 0) := bc l 1
    have g3 : wr.cell? ⟨x, 2, none⟩ = some (.slice none 0 0) := bc l 2
    have g4 : wr.cell? ⟨x, 3, none⟩ = some (.slice none 0 0) := bc l 3
    have g5 := Zab l.out 0
    have g6 := Zab l.out 1
    have g7 := Zab l.out 2
    have g8 := Zab l.out 3
    obtain ⟨b5, b6, fJ⟩ := zJ d.out
    subst fJ
    obtain ⟨cz, cA, fK⟩ := yW c.out
    subst fK
    go_wp2
    refine bodyPost_ret (results_cell_row rfl _ _ x 48 #[.int .i64 D, .int .i64 0, .slice b5 q.length b6, .slice cz v.length cA] (0, 0) _ rfl (by (with_reducible repeat (first | refine Zaj ?_ _ | refine Zad ?_ | refine Zaf ?_ _)); refine Za3 (cs := #[.int .i64 D, .int .i64 0, .slice b5 q.length b6, .slice none 0 0]) ?_ 3 _ rfl; (with_reducible repeat (first | refine Zaj ?_ _ | refine Zad ?_ | refine Zaf ?_ _)); refine Za3 (cs := #[.int .i64 D, .int .i64 0, .slice none 0 0, .slice none 0 0]) ?_ 2 _ rfl; (with_reducible repeat (first | refine Zaj ?_ _ | refine Zad ?_ | refine Zaf ?_ _)); refine Za3 (cs := #[.int .i64 D, .int .i64 0, .slice none 0 0, .slice none 0 0]) ?_ 1 _ rfl; (with_reducible repeat (first | refine Zaj ?_ _ | refine Zad ?_ | refine Zaf ?_ _)); refine Za3 (cs := #[.int .i64 0, .int .i64 0, .slice none 0 0, .slice none 0 0]) ?_ 0 _ rfl; exact bP l.out) Tryd.underlying48 rfl (by kernel_rfl)) rfl ?_
    exact ⟨_, _, eW, by (with_reducible repeat (first | apply zC | apply zD | apply zA)); exact zB (zQ (p := ⟨x, 3, none⟩) (zQ (p := ⟨x, 2, none⟩) (zQ (p := ⟨x, 1, none⟩) (zQ (p := ⟨x, 0, none⟩) (yA d.out l.out (by decide)) (fun _ hk => hk.2) (.int .i64 D)) (fun _ hk => hk.2) (.int .i64 0)) (fun _ hk => hk.2) (.slice b5 q.length b6)) (fun _ hk => hk.2) (.slice cz v.length cA)) (fun _ hk => hk.1), by (with_reducible repeat (first | apply zM | apply zN | apply zL)); exact yB (xF (p := ⟨x, 3, none⟩) (xF (p := ⟨x, 2, none⟩) (xF (p := ⟨x, 1, none⟩) (xF (p := ⟨x, 0, none⟩) (yB c.out (fun k_ hk => (⟨hk, hk.2.2.2.2.2.1⟩ : _ ∧ k_ ≠ x))) (fun _ hk => hk.2) (.int .i64 D)) (fun _ hk => hk.2) (.int .i64 0)) (fun _ hk => hk.2) (.slice b5 q.length b6)) (fun _ hk => hk.2) (.slice cz v.length cA)) (fun _ hk => ⟨hk.1.1, hk.1.2.2.2.1⟩), bW⟩
   rw [if_pos ch] at H
   have d0 := dT ch
   clear ch
   obtain ⟨fm, cC⟩ : ∃ y_ : List Int, y_ = (([] : List Int)) := ⟨_, rfl⟩
   replace H : (Zal.l1 k1 z bT A fm D 0 D I T B a0 D 0 q v) = some (r1, r2, r3, r4) := by rw [cC]; with_reducible exact H
   have d1 := mA cC
   clear cC
   have H' := mA H
   clear H
   obtain ⟨iV, iW, g9⟩ := zJ P.out
   subst g9
   go_wp2_with (first | ((with_reducible refine Zap (N := 47) rfl ?_); refine yT (Kd.int .i64) _ 2 ?hg (N := 47) ?hd (xs := ([] : List Int)) (inner := []) (ok := fun _ => True) (okp := fun _ => True) ?hr ?hp (fun _ hk => hk) trivial (Below.refl _ _) (Nat.le_refl _) (by simp) ?_; (case hd => rfl); (case hg => rfl); (case hr => first | (go_simp; done) | (go_simp; rfl)); (case hp => exact (Reps.none _ _)); intro iX jc bo hb hg_ hnew_; clear hg_ hnew_; (first | rw [← d1.out] at bo | (simp only [Int.reduceToNat] at bo; rw [← d1.out] at bo)); replace d := mA (zK (rP d.out) hb); replace c := mA (xA (by (with_reducible repeat (first | apply zM | apply zN | apply zL)); exact c.out) (zH bo) hb); have fL := mA (zP (zS (zS (yP (M := fun k_ => (w.heap.size ≤ k_)) bo (Zag (bW)) (fun k_ h_ => h_)) (zG (rP O.out))) (zG (rP P.out))) (Zag (bW))); replace O := mA (zR (rP O.out) (zH bo) hb); replace P := mA (zR (rP P.out) (zH bo) hb); replace a := mA (blkB a.out hb); replace l := mA (blkB l.out hb); replace s := mA (blkB s.out hb); replace m := mA (blkB m.out hb); replace HB := mA (Zac (bW) hb); clear hb bo; have iv := aW.out; have iw := aX.out; have ix := ao.out; have iy := aE.out; have iz := ap.out; have iA := aY.out; obtain ⟨e5, e6, e7, e8⟩ := Zbi a.out; obtain ⟨e9, fa, fb, fc⟩ := frz4 a.out))
   go_loopg [6, 9, 50] k1 (fun kq v6 v9 v50 w' => ∃ (r : List Int) (ay : List Int) (U : Int) (J : List (Int × Int)), v50 = .int .i64 U ∧ Zaa (Zal.l1 kq z r A ay D U D I T B J D 0 q v = some (r1, r2, r3, r4)) ∧ Zaa (kq ≤ k1) ∧ Zaa (Kd.R (Kd.int .i64) 2 w' w.heap.size (fun k_ => (w.heap.size ≤ k_) ∧ some k_ ≠ (v6 : Value).ownBlock ∧ some k_ ≠ (v9 : Value).ownBlock) (.slice (some E) z.length W) z) ∧ Zaa (Kd.R (Kd.int .i64) 2 w' w.heap.size (fun k_ => (w.heap.size ≤ k_) ∧ some k_ ≠ ((.slice (some E) z.length W) : Value).ownBlock ∧ some k_ ≠ (v9 : Value).ownBlock) v6 r) ∧ Zaa (Kd.R (Kd.int .i64) 2 w' w.heap.size (fun k_ => (w.heap.size ≤ k_) ∧ some k_ ≠ ((.slice (some E) z.length W) : Value).ownBlock ∧ some k_ ≠ (v6 : Value).ownBlock) v9 ay) ∧ Zaa (Kd.R Kd.bool 4 w' w.heap.size (fun k_ => (w.heap.size ≤ k_)) ag q) ∧ Zaa (Kd.N (Kd.slice 2 (Kd.int .i64)) 22 w' w.heap.size (fun k_ => (w.heap.size ≤ k_) ∧ some k_ ≠ ((.slice (some E) z.length W) : Value).ownBlock ∧ some k_ ≠ (v6 : Value).ownBlock ∧ some k_ ≠ (v9 : Value).ownBlock ∧ some k_ ≠ (ag : Value).ownBlock ∧ k_ ≠ u ∧ k_ ≠ x ∧ k_ ≠ G ∧ k_ ≠ y) ax v) ∧ Zaa (w'.heap[u]? = some (.cells #[.int .i64 D, .int .i64 I, (.slice an T.length ae), (.slice aj B.length af)] 48 (0, 0))) ∧ Zaa (w'.heap[x]? = some (.cells #[.int .i64 0, .int .i64 0, (.slice none 0 0), (.slice none 0 0)] 48 (0, 0))) ∧ Zaa (w'.heap[G]? = some (mobj (Value.int .i64) (Value.int .i64) J)) ∧ Zaa (w'.heap[y]? = some (.cells #[.int .i64 D, .int .i64 0, ag, ax] 48 (0, 0))) ∧ Zaa (Below w.heap.size w w'))
   case atStart => exact ⟨(bT), (fm), (0), (a0), (eW), H', ⟨Nat.le_refl _⟩, ⟨by (with_reducible repeat (first | apply zC | apply zD | apply zA)); exact zB O.out (fun _ hk => ⟨hk.1.1, ⟨hk.1.2, hk.2⟩⟩)⟩, ⟨by (with_reducible repeat (first | apply zC | apply zD | apply zA)); exact zB P.out (fun _ hk => ⟨hk.1.1, ⟨hk.1.2, hk.2⟩⟩)⟩, ⟨by (with_reducible repeat (first | apply zC | apply zD | apply zA)); exact zB fL.out (fun _ hk => ⟨hk.1.1.1, ⟨hk.1.2, hk.2⟩⟩)⟩, ⟨rP d.out⟩, ⟨by (with_reducible repeat (first | apply zM | apply zN | apply zL)); exact yB c.out (fun _ hk => ⟨hk.1.1, ⟨hk.1.2.1, ⟨hk.1.2.2.1, ⟨hk.2, ⟨hk.1.2.2.2.1, ⟨hk.1.2.2.2.2.1, ⟨hk.1.2.2.2.2.2.1, ⟨hk.1.2.2.2.2.2.2.1, hk.1.2.2.2.2.2.2.2⟩⟩⟩⟩⟩⟩⟩⟩)⟩, ⟨bP a.out⟩, ⟨bP l.out⟩, ⟨bP s.out⟩, ⟨bP m.out⟩, ⟨bW⟩⟩
   case round =>
    clear H' d0 e5 e6 e7 e8 e9 fa fb fc
    obtain ⟨r, ay, U, J, rfl, HA, bx, O, P, X, d, c, a, l, s, m, HB⟩ := hrel
    cases gk with
    | zero => exact absurd HA.out (by simp [Zal.l1])
    | succ k2 =>
     have H := HA.out
     clear HA
     simp only [Zal.l1] at H
     by_cases ci : U < D
     ·rw [if_pos ci] at H
      have d2 := dT ci
      clear ci
      by_cases d3 : 0 ≤ A; rotate_left
      ·rw [if_neg d3] at H
       exact absurd H (by simp)
      rw [if_pos d3] at H
      have fM := dT d3
      clear d3
      by_cases d4 : A < (r.length : Int); rotate_left
      ·rw [if_neg d4] at H
       exact absurd H (by simp)
      rw [if_pos d4] at H
      have fN := dT d4
      clear d4
      by_cases d5 : 0 ≤ (rd r A); rotate_left
      ·rw [if_neg d5] at H
       exact absurd H (by simp)
      rw [if_pos d5] at H
      have fO := dT d5
      clear d5
      by_cases d6 : (rd r A) < (B.length : Int); rotate_left
      ·rw [if_neg d6] at H
       exact absurd H (by simp)
      rw [if_pos d6] at H
      have fP := dT d6
      clear d6
      by_cases d7 : 0 ≤ U; rotate_left
      ·rw [if_neg d7] at H
       exact absurd H (by simp)
      rw [if_pos d7] at H
      have fQ := dT d7
      clear d7
      by_cases d8 : U < ((Zae B (rd r A)).length : Int); rotate_left
      ·rw [if_neg d8] at H
       exact absurd H (by simp)
      rw [if_pos d8] at H
      have fR := dT d8
      clear d8
      have dC := mA H
      clear H
      try go_wp2
      replace O := mA (zA O.out)
      replace P := mA (zA P.out)
      replace X := mA (zA X.out)
      replace d := mA (zA d.out)
      replace c := mA (zL c.out)
      replace a := mA (Zad a.out)
      replace l := mA (Zad l.out)
      replace s := mA (Zad s.out)
      replace m := mA (Zad m.out)
      replace HB := mA (Za0 HB.out)
      obtain ⟨iY, aV, fn⟩ := zJ P.out
      (first | subst fn | (injection fn with aq aH ar; have aI := aq.symm; have aJ := ar.symm; clear aq aH ar; subst aI; subst aJ))
      have cD : 0 ≤ (A : Int) := ofD
      have cE : A < (r.length : Int) := ofD
      obtain ⟨aD, ha, bU⟩ := zI (zE P.out).2.2 A cD cE
      cases ha
      replace cD := eq_true cD
      replace cE := eq_true cE
      have cF : 0 ≤ ((rd r A) : Int) := ofD
      have cG : (rd r A) < (B.length : Int) := ofD
      obtain ⟨a7, h9, fo, hc, a3, cj, ck⟩ := Zch b2.out (rd r A) cF cG
      have fd := a3
      cases hc
      replace a3 := (HB.out.cell (wB w a3)).trans a3
      have cm := mA ck
      have hH := mA cj
      clear ck cj
      replace cF := eq_true cF
      replace cG := eq_true cG
      have cH : 0 ≤ (U : Int) := ofD
      have cI : U < ((Zae B (rd r A)).length : Int) := ofD
      obtain ⟨d9, he, a4⟩ := zI cm.out U cH cI
      have fe := a4
      cases he
      replace a4 := (HB.out.cell (wB w a4)).trans a4
      replace cH := eq_true cH
      replace cI := eq_true cI
      refine Zcq (n := 12) (S := fun w' => w'.cell? ⟨u, 0, none⟩ = some (.int .i64 D) ∧ w'.cell? ⟨u, 1, none⟩ = some (.int .i64 I) ∧ w'.cell? ⟨u, 2, none⟩ = some (.slice an T.length ae) ∧ w'.cell? ⟨u, 3, none⟩ = some (.slice (some a7) B.length af) ∧ w'.cell? (aD.add (A).toNat) = some (.int .i64 (rd r A)) ∧ w'.cell? (a7.add ((rd r A)).toNat) = some (.slice (some d9) (Zae B (rd r A)).length fo) ∧ w'.cell? (d9.add (U).toNat) = some (.int .i64 (rd (Zae B (rd r A)) U))) (ds := []) #[false, false, false, false, false, false, false, false, false, false, false, false] (by kernel_rfl) rfl rfl ⟨bc a 0, bc a 1, bc a 2, bc a 3, bU, (cB HB fd :), (cB HB fe :)⟩ (fun hHeld => ?_); refine Zb7 Zal.tab14 Zal.bits14 (fun HT_ HW_ => ?_)
      generalize wr.drew = w47 at O P X d c a l s m HB cm bU a3 a4 hHeld ⊢
      refine Zan (i := 0) (N := some 53) (Zai HT_.out (by kernel_rfl)) ?_
      refine Zan (i := 2) (N := some 55) (Zai HT_.out (by kernel_rfl)) ?_
      refine Zan (i := 3) (N := some 56) (Zai HT_.out (by kernel_rfl)) ?_
      refine Zan (i := 4) (N := some 57) (Zai HT_.out (by kernel_rfl)) ?_
      refine Zan (i := 8) (N := some 61) (Zai HT_.out (by kernel_rfl)) ?_
      refine Za8 (i := 1) (N := some 54) (Zaz HT_.out HW_.out (by kernel_rfl)) hHeld ?_
      refine Za8 (i := 5) (N := some 58) (Zaz HT_.out HW_.out (by kernel_rfl)) hHeld ?_
      refine Zan (i := 6) (N := some 59) (Zai HT_.out (by kernel_rfl)) ?_
      refine Za8 (i := 7) (N := some 60) (Zaz HT_.out HW_.out (by kernel_rfl)) hHeld ?_
      refine Zan (i := 9) (N := some 62) (Zai HT_.out (by kernel_rfl)) ?_
      refine Za8 (i := 10) (N := some 63) (Zaz HT_.out HW_.out (by kernel_rfl)) hHeld ?_
      refine Zan (i := 11) (N := some 11) (Zai HT_.out (by kernel_rfl)) ?_
      refine Zcz (Zct HT_.out (by kernel_rfl)) ?_
      go_upto_region 15 with (fail)
      go_cut [72] (fun v72 wc => ∃ (kq : Nat) (bI : Bool), v72 = .bool bI ∧ Zaa (Zal.j2 kq z r A ay (rd (Zae B (rd r A)) U) D U bI D I T B J D 0 q v = some (r1, r2, r3, r4)) ∧ Zaa (kq ≤ k2) ∧ Zaa (Kd.R (Kd.int .i64) 2 wc w.heap.size (fun k_ => (w.heap.size ≤ k_) ∧ some k_ ≠ ((.slice (some aD) r.length aV) : Value).ownBlock ∧ some k_ ≠ (u9 : Value).ownBlock) (.slice (some E) z.length W) z) ∧ Zaa (Kd.R (Kd.int .i64) 2 wc w.heap.size (fun k_ => (w.heap.size ≤ k_) ∧ some k_ ≠ ((.slice (some E) z.length W) : Value).ownBlock ∧ some k_ ≠ (u9 : Value).ownBlock) (.slice (some aD) r.length aV) r) ∧ Zaa (Kd.R (Kd.int .i64) 2 wc w.heap.size (fun k_ => (w.heap.size ≤ k_) ∧ some k_ ≠ ((.slice (some E) z.length W) : Value).ownBlock ∧ some k_ ≠ ((.slice (some aD) r.length aV) : Value).ownBlock) u9 ay) ∧ Zaa (Kd.R Kd.bool 4 wc w.heap.size (fun k_ => (w.heap.size ≤ k_)) ag q) ∧ Zaa (Kd.N (Kd.slice 2 (Kd.int .i64)) 22 wc w.heap.size (fun k_ => (w.heap.size ≤ k_) ∧ some k_ ≠ ((.slice (some E) z.length W) : Value).ownBlock ∧ some k_ ≠ ((.slice (some aD) r.length aV) : Value).ownBlock ∧ some k_ ≠ (u9 : Value).ownBlock ∧ some k_ ≠ (ag : Value).ownBlock ∧ k_ ≠ u ∧ k_ ≠ x ∧ k_ ≠ G ∧ k_ ≠ y) ax v) ∧ Zaa (wc.heap[u]? = some (.cells #[.int .i64 D, .int .i64 I, (.slice an T.length ae), (.slice (some a7) B.length af)] 48 (0, 0))) ∧ Zaa (wc.heap[x]? = some (.cells #[.int .i64 0, .int .i64 0, (.slice none 0 0), (.slice none 0 0)] 48 (0, 0))) ∧ Zaa (wc.heap[G]? = some (mobj (Value.int .i64) (Value.int .i64) J)) ∧ Zaa (wc.heap[y]? = some (.cells #[.int .i64 D, .int .i64 0, ag, ax] 48 (0, 0))) ∧ Zaa (Below w.heap.size w wc))
      case first =>
       have H := dC.out
       clear dC
       by_cases cn : (rd (Zae B (rd r A)) U) < 0
       ·rw [if_pos cn] at H
        have bJ := dT cn
        clear cn
        (first | rw [bJ] | (simp only [i64_w, i32_w]; rw [bJ]) | skip)
        have H' := mA H
        clear H
        go_wp2
        go_meet
        case rel => exact ⟨_, (true), (eW), H', ⟨by have := bw.out; have := bx.out; first | omega | exact Nat.le_refl _⟩, ⟨rP O.out⟩, ⟨rP P.out⟩, ⟨rP X.out⟩, ⟨rP d.out⟩, ⟨by (with_reducible repeat (first | apply zM | apply zN | apply zL)); exact c.out⟩, ⟨bP a.out⟩, ⟨bP l.out⟩, ⟨bP s.out⟩, ⟨bP m.out⟩, ⟨bW⟩⟩
       rw [if_neg cn] at H
       have bJ := dF cn
       clear cn
       (first | rw [bJ] | (simp only [i64_w, i32_w]; rw [bJ]) | skip)
       by_cases ea : 0 ≤ (rd (Zae B (rd r A)) U); rotate_left
       ·rw [if_neg ea] at H
        exact absurd H (by simp)
       rw [if_pos ea] at H
       have iB := dT ea
       clear ea
       by_cases eb : (rd (Zae B (rd r A)) U) < (z.length : Int); rotate_left
       ·rw [if_neg eb] at H
        exact absurd H (by simp)
       rw [if_pos eb] at H
       have iC := dT eb
       clear eb
       have H' := mA H
       clear H
       have dD : 0 ≤ ((rd (Zae B (rd r A)) U) : Int) := ofD
       have dE : (rd (Zae B (rd r A)) U) < (z.length : Int) := ofD
       obtain ⟨fS, hf, hI⟩ := zI (zE O.out).2.2 (rd (Zae B (rd r A)) U) dD dE
       obtain rfl : E = fS := (by injection hf)
       replace dD := eq_true dD
       replace dE := eq_true dE
       go_wp2
       go_meet
       case rel => exact ⟨_, (decide ((rd z (rd (Zae B (rd r A)) U)) < 0)), (eW), H', ⟨by have := bw.out; have := bx.out; first | omega | exact Nat.le_refl _⟩, ⟨rP O.out⟩, ⟨rP P.out⟩, ⟨rP X.out⟩, ⟨rP d.out⟩, ⟨by (with_reducible repeat (first | apply zM | apply zN | apply zL)); exact c.out⟩, ⟨bP a.out⟩, ⟨bP l.out⟩, ⟨bP s.out⟩, ⟨bP m.out⟩, ⟨bW⟩⟩
      case rest =>
       clear dC d2 fM fN fO fP fQ fR bU a3 a4 cD cF cH cE cG cI
       obtain ⟨kq, bI, rfl, HA, bV, O, P, X, d, c, a, l, s, m, HB⟩ := hcut
       cases kq with
       | zero => exact absurd HA.out (by simp [Zal.j2])
       | succ dG =>
        have H := HA.out
        clear HA
        simp only [Zal.j2] at H
        by_cases ec : bI = true
        ·subst ec
         rw [if_pos rfl] at H
         obtain ⟨bA, cJ⟩ : ∃ y_ : List Int, y_ = (([(-1)] : List Int)) := ⟨_, rfl⟩
         replace H := bsm cJ H
         have ed := mA cJ
         clear cJ
         by_cases ee : ay.length + bA.length < 17592186044416; rotate_left
         ·rw [if_neg ee] at H
          exact absurd H (by simp)
         rw [if_pos ee] at H
         have fT := mA ee
         clear ee
         obtain ⟨hh, cK⟩ : ∃ y_ : List Int, y_ = (ay ++ bA) := ⟨_, rfl⟩
         rw [← cK] at H
         have fU := mA cK
         clear cK
         have H' := mA H
         clear H
         go_wp2_with (first | ((with_reducible refine Zap (N := 74) rfl ?_); refine yT (Kd.int .i64) _ 2 ?hg (N := 74) ?hd (xs := ([(-1)] : List Int)) (inner := [.int .i64 (-1)]) (ok := fun _ => True) (okp := fun _ => True) ?hr ?hp (fun _ hk => hk) trivial (Below.refl _ _) (Nat.le_refl _) (by simp) ?_; (case hd => rfl); (case hg => rfl); (case hr => first | (go_simp; done) | (go_simp; rfl)); (case hp => exact (Reps.one (show Kd.M (Kd.int .i64) _ _ _ (-1) [.int .i64 (-1)] from rfl) (Reps.none _ _))); intro iZ jd ba hb hg_ hnew_; clear hg_ hnew_; (first | rw [← ed.out] at ba | (simp only [Int.reduceToNat] at ba; rw [← ed.out] at ba)); replace d := mA (zK (rP d.out) hb); replace c := mA (xA (by (with_reducible repeat (first | apply zM | apply zN | apply zL)); exact c.out) (zH ba) hb); have bK := mA (zP (zS (zS (zS (yP (M := fun k_ => (w.heap.size ≤ k_)) ba (Zag (bW)) (fun k_ h_ => h_)) (zG (rP O.out))) (zG (rP P.out))) (zG (rP X.out))) (Zag (bW))); replace O := mA (zR (rP O.out) (zH ba) hb); replace P := mA (zR (rP P.out) (zH ba) hb); replace X := mA (zR (rP X.out) (zH ba) hb); replace a := mA (blkB a.out hb); replace l := mA (blkB l.out hb); replace s := mA (blkB s.out hb); replace m := mA (blkB m.out hb); replace HB := mA (Zac (bW) hb); clear hb ba; obtain ⟨cL, cM, hj⟩ := zJ bK.out; subst hj) | ((with_reducible refine Zbl (b := .append) (xs := #[.tmp 73, .tmp 74]) rfl ?_); at_builtin; refine qA (Kd.int .i64) (w0 := w) w.heap.size rfl (.tmp 73) (.tmp 74) 22 2 (.int .i64 0) 8 rfl Tryd.underlying22 info2 rfl (by decide) (by omega) u9 ay bA _ _ _ (fun k_ => (w.heap.size ≤ k_) ∧ some k_ ≠ (.slice (some E) z.length W : Value).ownBlock ∧ some k_ ≠ (.slice (some aD) r.length aV : Value).ownBlock ∧ some k_ ≠ (.slice cL bA.length cM : Value).ownBlock) (fun _ => False) rfl rfl ?aO ?aR (fun _ _ h => h) (fun _ h => h.elim) ?aF ?aB ?aS ?aL ?_; (case aR => exact cP ((zE bK.out).2.2)); (case aB => exact (bW)); (case aF => exact (fun k_ hk => ⟨(Nat.le_trans (Zag (bW)) hk), zT (zG (rP O.out)) k_ hk, zT (zG (rP P.out)) k_ hk, zT (zG (rP bK.out)) k_ hk⟩)); (case aO => exact (by (with_reducible repeat (first | apply zC | apply zD | apply zA)); exact zB X.out (fun _ hk => ⟨hk.1.1, ⟨hk.1.2.1, ⟨hk.1.2.2, hk.2⟩⟩⟩))); (case aS => exact (Zag (bW))); (case aL => have := fT.out; omega); intro i0 je ho hb hg hat; rw [← fU.out] at ho; replace O := mA (zU (ok := (fun k_ => (w.heap.size ≤ k_) ∧ some k_ ≠ (.slice (some aD) r.length aV : Value).ownBlock ∧ some k_ ≠ (.slice cL bA.length cM : Value).ownBlock)) (by (with_reducible repeat (first | apply zC | apply zD | apply zA)); exact zB O.out (fun _ hk => ⟨⟨hk.1.1, ⟨hk.1.2.1, hk.2⟩⟩, hk.1.2.2⟩)) hg hat); replace P := mA (zU (ok := (fun k_ => (w.heap.size ≤ k_) ∧ some k_ ≠ (.slice (some E) z.length W : Value).ownBlock ∧ some k_ ≠ (.slice cL bA.length cM : Value).ownBlock)) (by (with_reducible repeat (first | apply zC | apply zD | apply zA)); exact zB P.out (fun _ hk => ⟨⟨hk.1.1, ⟨hk.1.2.1, hk.2⟩⟩, hk.1.2.2⟩)) hg hat); replace d := mA (yM (rP d.out) (yU (rP X.out)) (by decide) hg); replace c := mA (xR (ok := (fun k_ => (w.heap.size ≤ k_) ∧ some k_ ≠ (.slice (some E) z.length W : Value).ownBlock ∧ some k_ ≠ (.slice (some aD) r.length aV : Value).ownBlock ∧ some k_ ≠ (ag : Value).ownBlock ∧ some k_ ≠ (.slice cL bA.length cM : Value).ownBlock ∧ k_ ≠ u ∧ k_ ≠ x ∧ k_ ≠ G ∧ k_ ≠ y)) (by (with_reducible repeat (first | apply zM | apply zN | apply zL)); exact yB c.out (fun _ hk => ⟨⟨hk.1.1, ⟨hk.1.2.1, ⟨hk.1.2.2.1, ⟨hk.1.2.2.2.2.1, ⟨hk.2, ⟨hk.1.2.2.2.2.2.1, ⟨hk.1.2.2.2.2.2.2.1, ⟨hk.1.2.2.2.2.2.2.2.1, hk.1.2.2.2.2.2.2.2.2⟩⟩⟩⟩⟩⟩⟩⟩, hk.1.2.2.2.1⟩)) hg hat); replace a := mA (Zaq (g := u) (o := .cells #[.int .i64 D, .int .i64 I, .slice an T.length ae, .slice (some a7) B.length af] 48 (0, 0)) (bP a.out) hg (zO X.out a.out (by decide))); replace l := mA (Zaq (g := x) (o := .cells #[.int .i64 0, .int .i64 0, .slice none 0 0, .slice none 0 0] 48 (0, 0)) (bP l.out) hg (zO X.out l.out (by decide))); replace s := mA (Zaq (g := G) (o := mobj (Value.int .i64) (Value.int .i64) J) (bP s.out) hg (Kd.R_nem X.out s.out)); replace m := mA (Zaq (g := y) (o := .cells #[.int .i64 D, .int .i64 0, ag, ax] 48 (0, 0)) (bP m.out) hg (zO X.out m.out (by decide))); replace bK := mA (zU (ok := (fun k_ => (w.heap.size ≤ k_) ∧ some k_ ≠ (.slice (some E) z.length W : Value).ownBlock ∧ some k_ ≠ (.slice (some aD) r.length aV : Value).ownBlock)) (by (with_reducible repeat (first | apply zC | apply zD | apply zA)); exact zB bK.out (fun _ hk => ⟨⟨hk.1.1.1.1, ⟨hk.1.1.2, hk.1.2⟩⟩, hk.2⟩)) hg hat); replace HB := mA (hb); have fV := mA (ho); clear X ho hb hg hat))
         go_roundg dG
         case measure => have := bw.out; have := bx.out; have := bV.out; omega
         case rel => exact ⟨(r), (hh), (wrap64 (U + 1)), (J), (eW), H', ⟨by have := bw.out; have := bx.out; have := bV.out; omega⟩, ⟨by (with_reducible repeat (first | apply zC | apply zD | apply zA)); exact zB O.out (fun _ hk => ⟨hk.1.1, ⟨hk.1.2.1, hk.2⟩⟩)⟩, ⟨by (with_reducible repeat (first | apply zC | apply zD | apply zA)); exact zB P.out (fun _ hk => ⟨hk.1.1, ⟨hk.1.2.1, hk.2⟩⟩)⟩, ⟨by (with_reducible repeat (first | apply zC | apply zD | apply zA)); exact zB fV.out (fun _ hk => ⟨hk.1, ⟨hk.2.1, hk.2.2.1⟩⟩)⟩, ⟨rP d.out⟩, ⟨by (with_reducible repeat (first | apply zM | apply zN | apply zL)); exact yB c.out (fun _ hk => ⟨hk.1.1, ⟨hk.1.2.1, ⟨hk.1.2.2.1, ⟨hk.2, ⟨hk.1.2.2.2.1, ⟨hk.1.2.2.2.2.2.1, ⟨hk.1.2.2.2.2.2.2.1, ⟨hk.1.2.2.2.2.2.2.2.1, hk.1.2.2.2.2.2.2.2.2⟩⟩⟩⟩⟩⟩⟩⟩)⟩, ⟨bP a.out⟩, ⟨bP l.out⟩, ⟨bP s.out⟩, ⟨bP m.out⟩, ⟨bW⟩⟩
        replace ec := Bool.eq_false_iff.mpr ec
        subst ec
        rw [iF] at H
        by_cases ef : 0 ≤ (rd (Zae B (rd r A)) U); rotate_left
        ·rw [if_neg ef] at H
         exact absurd H (by simp)
        rw [if_pos ef] at H
        have iD := dT ef
        clear ef
        by_cases eg : (rd (Zae B (rd r A)) U) < (z.length : Int); rotate_left
        ·rw [if_neg eg] at H
         exact absurd H (by simp)
        rw [if_pos eg] at H
        have iE := dT eg
        clear eg
        by_cases co : (mhas J (rd z (rd (Zae B (rd r A)) U)) = true)
        ·rw [if_pos co] at H
         have fW : mhas J (rd z (rd (Zae B (rd r A)) U)) = true := co
         clear co
         obtain ⟨bB, cN⟩ : ∃ y_ : List Int, y_ = (([mget 0 J (rd z (rd (Zae B (rd r A)) U))] : List Int)) := ⟨_, rfl⟩
         replace H := bsm cN H
         have eh := mA cN
         clear cN
         by_cases ei : ay.length + bB.length < 17592186044416; rotate_left
         ·rw [if_neg ei] at H
          exact absurd H (by simp)
         rw [if_pos ei] at H
         have fX := mA ei
         clear ei
         obtain ⟨hl, cO⟩ : ∃ y_ : List Int, y_ = (ay ++ bB) := ⟨_, rfl⟩
         rw [← cO] at H
         have fY := mA cO
         clear cO
         have H' := mA H
         clear H
         have bC : 0 ≤ ((rd (Zae B (rd r A)) U) : Int) := ofD
         have bD : (rd (Zae B (rd r A)) U) < (z.length : Int) := ofD
         obtain ⟨cQ, dH, ff⟩ := zI (zE O.out).2.2 (rd (Zae B (rd r A)) U) bC bD
         obtain rfl : E = cQ := (by injection dH)
         replace bC := eq_true bC
         replace bD := eq_true bD
         go_wp2_with (first | ((with_reducible refine Zap (N := 82) rfl ?_); refine mgetS (eK := (Value.int .i64)) (eV := (Value.int .i64)) (g := G) (L := J) 0 (rd z (rd (Zae B (rd r A)) U)) (mkey_int .i64) (bP s.out) Tryd.underlying75 Tryd.underlying2 (Tryd.zeroValue2 _) ?_) | ((with_reducible refine Zap (N := 101) rfl ?_); refine yT (Kd.int .i64) _ 2 ?hg (N := 101) ?hd (xs := ([mget 0 J (rd z (rd (Zae B (rd r A)) U))] : List Int)) (inner := [.int .i64 (mget 0 J (rd z (rd (Zae B (rd r A)) U)))]) (ok := fun _ => True) (okp := fun _ => True) ?hr ?hp (fun _ hk => hk) trivial (Below.refl _ _) (Nat.le_refl _) (by simp) ?_; (case hd => rfl); (case hg => rfl); (case hr => first | (go_simp; done) | (go_simp; rfl)); (case hp => exact (Reps.one (show Kd.M (Kd.int .i64) _ _ _ (mget 0 J (rd z (rd (Zae B (rd r A)) U))) [.int .i64 (mget 0 J (rd z (rd (Zae B (rd r A)) U)))] from rfl) (Reps.none _ _))); intro i1 jf bb hb hg_ hnew_; clear hg_ hnew_; (first | rw [← eh.out] at bb | (simp only [Int.reduceToNat] at bb; rw [← eh.out] at bb)); replace d := mA (zK (rP d.out) hb); replace c := mA (xA (by (with_reducible repeat (first | apply zM | apply zN | apply zL)); exact c.out) (zH bb) hb); have bL := mA (zP (zS (zS (zS (yP (M := fun k_ => (w.heap.size ≤ k_)) bb (Zag (bW)) (fun k_ h_ => h_)) (zG (rP O.out))) (zG (rP P.out))) (zG (rP X.out))) (Zag (bW))); replace O := mA (zR (rP O.out) (zH bb) hb); replace P := mA (zR (rP P.out) (zH bb) hb); replace X := mA (zR (rP X.out) (zH bb) hb); replace a := mA (blkB a.out hb); replace l := mA (blkB l.out hb); replace s := mA (blkB s.out hb); replace m := mA (blkB m.out hb); replace HB := mA (Zac (bW) hb); clear hb bb; obtain ⟨cR, cS, hm⟩ := zJ bL.out; subst hm) | ((with_reducible refine Zbl (b := .append) (xs := #[.tmp 99, .tmp 101]) rfl ?_); at_builtin; refine qA (Kd.int .i64) (w0 := w) w.heap.size rfl (.tmp 99) (.tmp 101) 22 2 (.int .i64 0) 8 rfl Tryd.underlying22 info2 rfl (by decide) (by omega) u9 ay bB _ _ _ (fun k_ => (w.heap.size ≤ k_) ∧ some k_ ≠ (.slice (some E) z.length W : Value).ownBlock ∧ some k_ ≠ (.slice (some aD) r.length aV : Value).ownBlock ∧ some k_ ≠ (.slice cR bB.length cS : Value).ownBlock) (fun _ => False) rfl rfl ?aO ?aR (fun _ _ h => h) (fun _ h => h.elim) ?aF ?aB ?aS ?aL ?_; (case aR => exact cP ((zE bL.out).2.2)); (case aB => exact (bW)); (case aF => exact (fun k_ hk => ⟨(Nat.le_trans (Zag (bW)) hk), zT (zG (rP O.out)) k_ hk, zT (zG (rP P.out)) k_ hk, zT (zG (rP bL.out)) k_ hk⟩)); (case aO => exact (by (with_reducible repeat (first | apply zC | apply zD | apply zA)); exact zB X.out (fun _ hk => ⟨hk.1.1, ⟨hk.1.2.1, ⟨hk.1.2.2, hk.2⟩⟩⟩))); (case aS => exact (Zag (bW))); (case aL => have := fX.out; omega); intro i2 w64 ho hb hg hat; rw [← fY.out] at ho; replace O := mA (zU (ok := (fun k_ => (w.heap.size ≤ k_) ∧ some k_ ≠ (.slice (some aD) r.length aV : Value).ownBlock ∧ some k_ ≠ (.slice cR bB.length cS : Value).ownBlock)) (by (with_reducible repeat (first | apply zC | apply zD | apply zA)); exact zB O.out (fun _ hk => ⟨⟨hk.1.1, ⟨hk.1.2.1, hk.2⟩⟩, hk.1.2.2⟩)) hg hat); replace P := mA (zU (ok := (fun k_ => (w.heap.size ≤ k_) ∧ some k_ ≠ (.slice (some E) z.length W : Value).ownBlock ∧ some k_ ≠ (.slice cR bB.length cS : Value).ownBlock)) (by (with_reducible repeat (first | apply zC | apply zD | apply zA)); exact zB P.out (fun _ hk => ⟨⟨hk.1.1, ⟨hk.1.2.1, hk.2⟩⟩, hk.1.2.2⟩)) hg hat); replace d := mA (yM (rP d.out) (yU (rP X.out)) (by decide) hg); replace c := mA (xR (ok := (fun k_ => (w.heap.size ≤ k_) ∧ some k_ ≠ (.slice (some E) z.length W : Value).ownBlock ∧ some k_ ≠ (.slice (some aD) r.length aV : Value).ownBlock ∧ some k_ ≠ (ag : Value).ownBlock ∧ some k_ ≠ (.slice cR bB.length cS : Value).ownBlock ∧ k_ ≠ u ∧ k_ ≠ x ∧ k_ ≠ G ∧ k_ ≠ y)) (by (with_reducible repeat (first | apply zM | apply zN | apply zL)); exact yB c.out (fun _ hk => ⟨⟨hk.1.1, ⟨hk.1.2.1, ⟨hk.1.2.2.1, ⟨hk.1.2.2.2.2.1, ⟨hk.2, ⟨hk.1.2.2.2.2.2.1, ⟨hk.1.2.2.2.2.2.2.1, ⟨hk.1.2.2.2.2.2.2.2.1, hk.1.2.2.2.2.2.2.2.2⟩⟩⟩⟩⟩⟩⟩⟩, hk.1.2.2.2.1⟩)) hg hat); replace a := mA (Zaq (g := u) (o := .cells #[.int .i64 D, .int .i64 I, .slice an T.length ae, .slice (some a7) B.length af] 48 (0, 0)) (bP a.out) hg (zO X.out a.out (by decide))); replace l := mA (Zaq (g := x) (o := .cells #[.int .i64 0, .int .i64 0, .slice none 0 0, .slice none 0 0] 48 (0, 0)) (bP l.out) hg (zO X.out l.out (by decide))); replace s := mA (Zaq (g := G) (o := mobj (Value.int .i64) (Value.int .i64) J) (bP s.out) hg (Kd.R_nem X.out s.out)); replace m := mA (Zaq (g := y) (o := .cells #[.int .i64 D, .int .i64 0, ag, ax] 48 (0, 0)) (bP m.out) hg (zO X.out m.out (by decide))); replace bL := mA (zU (ok := (fun k_ => (w.heap.size ≤ k_) ∧ some k_ ≠ (.slice (some E) z.length W : Value).ownBlock ∧ some k_ ≠ (.slice (some aD) r.length aV : Value).ownBlock)) (by (with_reducible repeat (first | apply zC | apply zD | apply zA)); exact zB bL.out (fun _ hk => ⟨⟨hk.1.1.1.1, ⟨hk.1.1.2, hk.1.2⟩⟩, hk.2⟩)) hg hat); replace HB := mA (hb); have fZ := mA (ho); clear X ho hb hg hat))
         go_roundg dG
         case measure => have := bw.out; have := bx.out; have := bV.out; omega
         case rel => exact ⟨(r), (hl), (wrap64 (U + 1)), (J), (eW), H', ⟨by have := bw.out; have := bx.out; have := bV.out; omega⟩, ⟨by (with_reducible repeat (first | apply zC | apply zD | apply zA)); exact zB O.out (fun _ hk => ⟨hk.1.1, ⟨hk.1.2.1, hk.2⟩⟩)⟩, ⟨by (with_reducible repeat (first | apply zC | apply zD | apply zA)); exact zB P.out (fun _ hk => ⟨hk.1.1, ⟨hk.1.2.1, hk.2⟩⟩)⟩, ⟨by (with_reducible repeat (first | apply zC | apply zD | apply zA)); exact zB fZ.out (fun _ hk => ⟨hk.1, ⟨hk.2.1, hk.2.2.1⟩⟩)⟩, ⟨rP d.out⟩, ⟨by (with_reducible repeat (first | apply zM | apply zN | apply zL)); exact yB c.out (fun _ hk => ⟨hk.1.1, ⟨hk.1.2.1, ⟨hk.1.2.2.1, ⟨hk.2, ⟨hk.1.2.2.2.1, ⟨hk.1.2.2.2.2.2.1, ⟨hk.1.2.2.2.2.2.2.1, ⟨hk.1.2.2.2.2.2.2.2.1, hk.1.2.2.2.2.2.2.2.2⟩⟩⟩⟩⟩⟩⟩⟩)⟩, ⟨bP a.out⟩, ⟨bP l.out⟩, ⟨bP s.out⟩, ⟨bP m.out⟩, ⟨bW⟩⟩
        rw [if_neg co] at H
        have fW : mhas J (rd z (rd (Zae B (rd r A)) U)) = false := by simpa using co
        clear co
        obtain ⟨a1, cT⟩ : ∃ y_ : List Int, y_ = (([(rd (Zae B (rd r A)) U)] : List Int)) := ⟨_, rfl⟩
        replace H := bsm cT H
        have ej := mA cT
        clear cT
        by_cases ek : r.length + a1.length < 17592186044416; rotate_left
        ·rw [if_neg ek] at H
         exact absurd H (by simp)
        rw [if_pos ek] at H
        have f3 := mA ek
        clear ek
        obtain ⟨hn, cU⟩ : ∃ y_ : List Int, y_ = (r ++ a1) := ⟨_, rfl⟩
        rw [← cU] at H
        have f4 := mA cU
        clear cU
        obtain ⟨bp, cV⟩ : ∃ y_ : List Int, y_ = (([(r.length : Int)] : List Int)) := ⟨_, rfl⟩
        replace H := bsm cV H
        have el := mA cV
        clear cV
        by_cases em : ay.length + bp.length < 17592186044416; rotate_left
        ·rw [if_neg em] at H
         exact absurd H (by simp)
        rw [if_pos em] at H
        have f5 := mA em
        clear em
        obtain ⟨hq, cW⟩ : ∃ y_ : List Int, y_ = (ay ++ bp) := ⟨_, rfl⟩
        rw [← cW] at H
        have f6 := mA cW
        clear cW
        have H' := mA H
        clear H
        have bC : 0 ≤ ((rd (Zae B (rd r A)) U) : Int) := ofD
        have bD : (rd (Zae B (rd r A)) U) < (z.length : Int) := ofD
        obtain ⟨cQ, dH, ff⟩ := zI (zE O.out).2.2 (rd (Zae B (rd r A)) U) bC bD
        obtain rfl : E = cQ := (by injection dH)
        replace bC := eq_true bC
        replace bD := eq_true bD
        go_wp2_with (first | ((with_reducible refine Zap (N := 82) rfl ?_); refine mgetS (eK := (Value.int .i64)) (eV := (Value.int .i64)) (g := G) (L := J) 0 (rd z (rd (Zae B (rd r A)) U)) (mkey_int .i64) (bP s.out) Tryd.underlying75 Tryd.underlying2 (Tryd.zeroValue2 _) ?_; have dI : 0 ≤ ((rd (Zae B (rd r A)) U) : Int) := ofD; have dJ : (rd (Zae B (rd r A)) U) < (z.length : Int) := ofD; obtain ⟨f7, hs, hJ⟩ := zI (zE O.out).2.2 (rd (Zae B (rd r A)) U) dI dJ; obtain rfl : E = f7 := (by injection hs); replace dI := eq_true dI; replace dJ := eq_true dJ) | ((with_reducible refine gate_mset (t := 75) rfl ?_); refine msetS (eK := (Value.int .i64)) (eV := (Value.int .i64)) (g := G) (L := J) (rd z (rd (Zae B (rd r A)) U)) (r.length : Int) (mkey_int .i64) (bP s.out) Tryd.underlying75 Tryd.underlying2 ?_; intro jg hbk hg; replace O := mA (Kd.R_mset (rP O.out) (bP s.out) hg); replace P := mA (Kd.R_mset (rP P.out) (bP s.out) hg); replace X := mA (Kd.R_mset (rP X.out) (bP s.out) hg); replace d := mA (Kd.R_mset (rP d.out) (bP s.out) hg); replace c := mA (Kd.N_grown (c.out) hg (fun k_ hk_ e_ => (hk_.2.2.2.2.2.2.2.1) (Option.some.inj e_))); replace a := mA (Zaq (g := u) (o := .cells #[.int .i64 D, .int .i64 I, .slice an T.length ae, .slice (some a7) B.length af] 48 (0, 0)) (bP a.out) hg (fun e_ => ao.out (Option.some.inj e_))); replace l := mA (Zaq (g := x) (o := .cells #[.int .i64 0, .int .i64 0, .slice none 0 0, .slice none 0 0] 48 (0, 0)) (bP l.out) hg (fun e_ => au.out (Option.some.inj e_))); replace s := mA (hbk); replace m := mA (Zaq (g := y) (o := .cells #[.int .i64 D, .int .i64 0, ag, ax] 48 (0, 0)) (bP m.out) hg (fun e_ => aZ.out (Option.some.inj e_))); replace HB := mA ((fun h_ => Below.grown h_ hg h_.size (fun k_ e_ => by injection e_ with e_; rw [← e_]; exact a2.out)) (bW)); clear hg hbk) | ((with_reducible refine Zap (N := 97) rfl ?_); refine yT (Kd.int .i64) _ 2 ?hg (N := 97) ?hd (xs := ([(rd (Zae B (rd r A)) U)] : List Int)) (inner := [.int .i64 (rd (Zae B (rd r A)) U)]) (ok := fun _ => True) (okp := fun _ => True) ?hr ?hp (fun _ hk => hk) trivial (Below.refl _ _) (Nat.le_refl _) (by simp) ?_; (case hd => rfl); (case hg => rfl); (case hr => first | (go_simp; done) | (go_simp; rfl)); (case hp => exact (Reps.one (show Kd.M (Kd.int .i64) _ _ _ (rd (Zae B (rd r A)) U) [.int .i64 (rd (Zae B (rd r A)) U)] from rfl) (Reps.none _ _))); intro i3 jh bd hb hg_ hnew_; clear hg_ hnew_; (first | rw [← ej.out] at bd | (simp only [Int.reduceToNat] at bd; rw [← ej.out] at bd)); replace d := mA (zK (rP d.out) hb); replace c := mA (xA (by (with_reducible repeat (first | apply zM | apply zN | apply zL)); exact c.out) (zH bd) hb); have aT := mA (zP (zS (zS (zS (yP (M := fun k_ => (w.heap.size ≤ k_)) bd (Zag (bW)) (fun k_ h_ => h_)) (zG (rP O.out))) (zG (rP P.out))) (zG (rP X.out))) (Zag (bW))); replace O := mA (zR (rP O.out) (zH bd) hb); replace P := mA (zR (rP P.out) (zH bd) hb); replace X := mA (zR (rP X.out) (zH bd) hb); replace a := mA (blkB a.out hb); replace l := mA (blkB l.out hb); replace s := mA (blkB s.out hb); replace m := mA (blkB m.out hb); replace HB := mA (Zac (bW) hb); clear hb bd; obtain ⟨bf, bg, ht⟩ := zJ aT.out; subst ht) | ((with_reducible refine Zbl (b := .append) (xs := #[.tmp 95, .tmp 97]) rfl ?_); at_builtin; refine qA (Kd.int .i64) (w0 := w) w.heap.size rfl (.tmp 95) (.tmp 97) 22 2 (.int .i64 0) 8 rfl Tryd.underlying22 info2 rfl (by decide) (by omega) (.slice (some aD) r.length aV) r a1 _ _ _ (fun k_ => (w.heap.size ≤ k_) ∧ some k_ ≠ (.slice (some E) z.length W : Value).ownBlock ∧ some k_ ≠ (u9 : Value).ownBlock ∧ some k_ ≠ (.slice bf a1.length bg : Value).ownBlock) (fun _ => False) rfl rfl ?aO ?aR (fun _ _ h => h) (fun _ h => h.elim) ?aF ?aB ?aS ?aL ?_; (case aR => exact cP ((zE aT.out).2.2)); (case aB => exact (bW)); (case aF => exact (fun k_ hk => ⟨(Nat.le_trans (Zag (bW)) hk), zT (zG (rP O.out)) k_ hk, zT (zG (rP X.out)) k_ hk, zT (zG (rP aT.out)) k_ hk⟩)); (case aO => exact (by (with_reducible repeat (first | apply zC | apply zD | apply zA)); exact zB P.out (fun _ hk => ⟨hk.1.1, ⟨hk.1.2.1, ⟨hk.1.2.2, hk.2⟩⟩⟩))); (case aS => exact (Zag (bW))); (case aL => have := f3.out; omega); intro cb ji ho hb hg hat; rw [← f4.out] at ho; replace O := mA (zU (ok := (fun k_ => (w.heap.size ≤ k_) ∧ some k_ ≠ (u9 : Value).ownBlock ∧ some k_ ≠ (.slice bf a1.length bg : Value).ownBlock)) (by (with_reducible repeat (first | apply zC | apply zD | apply zA)); exact zB O.out (fun _ hk => ⟨⟨hk.1.1, ⟨hk.1.2.2, hk.2⟩⟩, hk.1.2.1⟩)) hg hat); replace X := mA (zU (ok := (fun k_ => (w.heap.size ≤ k_) ∧ some k_ ≠ (.slice (some E) z.length W : Value).ownBlock ∧ some k_ ≠ (.slice bf a1.length bg : Value).ownBlock)) (by (with_reducible repeat (first | apply zC | apply zD | apply zA)); exact zB X.out (fun _ hk => ⟨⟨hk.1.1, ⟨hk.1.2.1, hk.2⟩⟩, hk.1.2.2⟩)) hg hat); replace d := mA (yM (rP d.out) (yU (rP P.out)) (by decide) hg); replace c := mA (xR (ok := (fun k_ => (w.heap.size ≤ k_) ∧ some k_ ≠ (.slice (some E) z.length W : Value).ownBlock ∧ some k_ ≠ (u9 : Value).ownBlock ∧ some k_ ≠ (ag : Value).ownBlock ∧ some k_ ≠ (.slice bf a1.length bg : Value).ownBlock ∧ k_ ≠ u ∧ k_ ≠ x ∧ k_ ≠ G ∧ k_ ≠ y)) (by (with_reducible repeat (first | apply zM | apply zN | apply zL)); exact yB c.out (fun _ hk => ⟨⟨hk.1.1, ⟨hk.1.2.1, ⟨hk.1.2.2.2.1, ⟨hk.1.2.2.2.2.1, ⟨hk.2, ⟨hk.1.2.2.2.2.2.1, ⟨hk.1.2.2.2.2.2.2.1, ⟨hk.1.2.2.2.2.2.2.2.1, hk.1.2.2.2.2.2.2.2.2⟩⟩⟩⟩⟩⟩⟩⟩, hk.1.2.2.1⟩)) hg hat); replace a := mA (Zaq (g := u) (o := .cells #[.int .i64 D, .int .i64 I, .slice an T.length ae, .slice (some a7) B.length af] 48 (0, 0)) (bP a.out) hg (zO P.out a.out (by decide))); replace l := mA (Zaq (g := x) (o := .cells #[.int .i64 0, .int .i64 0, .slice none 0 0, .slice none 0 0] 48 (0, 0)) (bP l.out) hg (zO P.out l.out (by decide))); replace s := mA (Zaq (g := G) (o := mobj (Value.int .i64) (Value.int .i64) (mset J (rd z (rd (Zae B (rd r A)) U)) (r.length : Int))) (bP s.out) hg (Kd.R_nem P.out s.out)); replace m := mA (Zaq (g := y) (o := .cells #[.int .i64 D, .int .i64 0, ag, ax] 48 (0, 0)) (bP m.out) hg (zO P.out m.out (by decide))); replace aT := mA (zU (ok := (fun k_ => (w.heap.size ≤ k_) ∧ some k_ ≠ (.slice (some E) z.length W : Value).ownBlock ∧ some k_ ≠ (u9 : Value).ownBlock)) (by (with_reducible repeat (first | apply zC | apply zD | apply zA)); exact zB aT.out (fun _ hk => ⟨⟨hk.1.1.1.1, ⟨hk.1.1.2, hk.2⟩⟩, hk.1.2⟩)) hg hat); replace HB := mA (hb); have bh := mA (ho); clear P ho hb hg hat) | ((with_reducible refine Zap (N := 101) rfl ?_); refine yT (Kd.int .i64) _ 2 ?hg (N := 101) ?hd (xs := ([(r.length : Int)] : List Int)) (inner := [.int .i64 (r.length : Int)]) (ok := fun _ => True) (okp := fun _ => True) ?hr ?hp (fun _ hk => hk) trivial (Below.refl _ _) (Nat.le_refl _) (by simp) ?_; (case hd => rfl); (case hg => rfl); (case hr => first | (go_simp; done) | (go_simp; rfl)); (case hp => exact (Reps.one (show Kd.M (Kd.int .i64) _ _ _ (r.length : Int) [.int .i64 (r.length : Int)] from rfl) (Reps.none _ _))); intro i4 jj a8 hb hg_ hnew_; clear hg_ hnew_; (first | rw [← el.out] at a8 | (simp only [Int.reduceToNat] at a8; rw [← el.out] at a8)); replace d := mA (zK (rP d.out) hb); replace c := mA (xA (by (with_reducible repeat (first | apply zM | apply zN | apply zL)); exact c.out) (zH a8) hb); have bM := mA (zP (zS (zS (zS (zS (yP (M := fun k_ => (w.heap.size ≤ k_)) a8 (Zag (bW)) (fun k_ h_ => h_)) (zG (rP O.out))) (zG (rP X.out))) (zG (rP aT.out))) (zG (rP bh.out))) (Zag (bW))); replace O := mA (zR (rP O.out) (zH a8) hb); replace X := mA (zR (rP X.out) (zH a8) hb); replace aT := mA (zR (rP aT.out) (zH a8) hb); replace bh := mA (zR (rP bh.out) (zH a8) hb); replace a := mA (blkB a.out hb); replace l := mA (blkB l.out hb); replace s := mA (blkB s.out hb); replace m := mA (blkB m.out hb); replace HB := mA (Zac (bW) hb); clear hb a8; obtain ⟨cc, cd, hu⟩ := zJ bM.out; subst hu) | ((with_reducible refine Zbl (b := .append) (xs := #[.tmp 99, .tmp 101]) rfl ?_); at_builtin; refine qA (Kd.int .i64) (w0 := w) w.heap.size rfl (.tmp 99) (.tmp 101) 22 2 (.int .i64 0) 8 rfl Tryd.underlying22 info2 rfl (by decide) (by omega) u9 ay bp _ _ _ (fun k_ => (w.heap.size ≤ k_) ∧ some k_ ≠ (.slice (some E) z.length W : Value).ownBlock ∧ some k_ ≠ (.slice bf a1.length bg : Value).ownBlock ∧ some k_ ≠ (cb : Value).ownBlock ∧ some k_ ≠ (.slice cc bp.length cd : Value).ownBlock) (fun _ => False) rfl rfl ?aO ?aR (fun _ _ h => h) (fun _ h => h.elim) ?aF ?aB ?aS ?aL ?_; (case aR => exact cP ((zE bM.out).2.2)); (case aB => exact (bW)); (case aF => exact (fun k_ hk => ⟨(Nat.le_trans (Zag (bW)) hk), zT (zG (rP O.out)) k_ hk, zT (zG (rP aT.out)) k_ hk, zT (zG (rP bh.out)) k_ hk, zT (zG (rP bM.out)) k_ hk⟩)); (case aO => exact (by (with_reducible repeat (first | apply zC | apply zD | apply zA)); exact zB X.out (fun _ hk => ⟨hk.1.1.1, ⟨hk.1.1.2.1, ⟨hk.1.1.2.2, ⟨hk.1.2, hk.2⟩⟩⟩⟩))); (case aS => exact (Zag (bW))); (case aL => have := f5.out; omega); intro i5 jk ho hb hg hat; rw [← f6.out] at ho; replace O := mA (zU (ok := (fun k_ => (w.heap.size ≤ k_) ∧ some k_ ≠ (.slice bf a1.length bg : Value).ownBlock ∧ some k_ ≠ (cb : Value).ownBlock ∧ some k_ ≠ (.slice cc bp.length cd : Value).ownBlock)) (by (with_reducible repeat (first | apply zC | apply zD | apply zA)); exact zB O.out (fun _ hk => ⟨⟨hk.1.1.1, ⟨hk.1.1.2.2, ⟨hk.1.2, hk.2⟩⟩⟩, hk.1.1.2.1⟩)) hg hat); replace d := mA (yM (rP d.out) (yU (rP X.out)) (by decide) hg); replace c := mA (xR (ok := (fun k_ => (w.heap.size ≤ k_) ∧ some k_ ≠ (.slice (some E) z.length W : Value).ownBlock ∧ some k_ ≠ (ag : Value).ownBlock ∧ some k_ ≠ (.slice bf a1.length bg : Value).ownBlock ∧ some k_ ≠ (cb : Value).ownBlock ∧ some k_ ≠ (.slice cc bp.length cd : Value).ownBlock ∧ k_ ≠ u ∧ k_ ≠ x ∧ k_ ≠ G ∧ k_ ≠ y)) (by (with_reducible repeat (first | apply zM | apply zN | apply zL)); exact yB c.out (fun _ hk => ⟨⟨hk.1.1.1, ⟨hk.1.1.2.1, ⟨hk.1.1.2.2.2.1, ⟨hk.1.1.2.2.2.2.1, ⟨hk.1.2, ⟨hk.2, ⟨hk.1.1.2.2.2.2.2.1, ⟨hk.1.1.2.2.2.2.2.2.1, ⟨hk.1.1.2.2.2.2.2.2.2.1, hk.1.1.2.2.2.2.2.2.2.2⟩⟩⟩⟩⟩⟩⟩⟩⟩, hk.1.1.2.2.1⟩)) hg hat); replace a := mA (Zaq (g := u) (o := .cells #[.int .i64 D, .int .i64 I, .slice an T.length ae, .slice (some a7) B.length af] 48 (0, 0)) (bP a.out) hg (zO X.out a.out (by decide))); replace l := mA (Zaq (g := x) (o := .cells #[.int .i64 0, .int .i64 0, .slice none 0 0, .slice none 0 0] 48 (0, 0)) (bP l.out) hg (zO X.out l.out (by decide))); replace s := mA (Zaq (g := G) (o := mobj (Value.int .i64) (Value.int .i64) (mset J (rd z (rd (Zae B (rd r A)) U)) (r.length : Int))) (bP s.out) hg (Kd.R_nem X.out s.out)); replace m := mA (Zaq (g := y) (o := .cells #[.int .i64 D, .int .i64 0, ag, ax] 48 (0, 0)) (bP m.out) hg (zO X.out m.out (by decide))); replace aT := mA (zU (ok := (fun k_ => (w.heap.size ≤ k_) ∧ some k_ ≠ (.slice (some E) z.length W : Value).ownBlock ∧ some k_ ≠ (cb : Value).ownBlock ∧ some k_ ≠ (.slice cc bp.length cd : Value).ownBlock)) (by (with_reducible repeat (first | apply zC | apply zD | apply zA)); exact zB aT.out (fun _ hk => ⟨⟨hk.1.1.1, ⟨hk.1.1.2.1, ⟨hk.1.2, hk.2⟩⟩⟩, hk.1.1.2.2⟩)) hg hat); replace bh := mA (zU (ok := (fun k_ => (w.heap.size ≤ k_) ∧ some k_ ≠ (.slice (some E) z.length W : Value).ownBlock ∧ some k_ ≠ (.slice bf a1.length bg : Value).ownBlock ∧ some k_ ≠ (.slice cc bp.length cd : Value).ownBlock)) (by (with_reducible repeat (first | apply zC | apply zD | apply zA)); exact zB bh.out (fun _ hk => ⟨⟨hk.1.1, ⟨hk.1.2.1, ⟨hk.1.2.2.2, hk.2⟩⟩⟩, hk.1.2.2.1⟩)) hg hat); replace bM := mA (zU (ok := (fun k_ => (w.heap.size ≤ k_) ∧ some k_ ≠ (.slice (some E) z.length W : Value).ownBlock ∧ some k_ ≠ (.slice bf a1.length bg : Value).ownBlock ∧ some k_ ≠ (cb : Value).ownBlock)) (by (with_reducible repeat (first | apply zC | apply zD | apply zA)); exact zB bM.out (fun _ hk => ⟨⟨hk.1.1.1.1.1, ⟨hk.1.1.1.2, ⟨hk.1.2, hk.2⟩⟩⟩, hk.1.1.2⟩)) hg hat); replace HB := mA (hb); have f8 := mA (ho); clear X ho hb hg hat))
        go_roundg dG
        case measure => have := bw.out; have := bx.out; have := bV.out; omega
        case rel => exact ⟨(hn), (hq), (wrap64 (U + 1)), (mset J (rd z (rd (Zae B (rd r A)) U)) (r.length : Int)), (eW), H', ⟨by have := bw.out; have := bx.out; have := bV.out; omega⟩, ⟨by (with_reducible repeat (first | apply zC | apply zD | apply zA)); exact zB O.out (fun _ hk => ⟨hk.1.1, ⟨hk.1.2.2.1, hk.2⟩⟩)⟩, ⟨by (with_reducible repeat (first | apply zC | apply zD | apply zA)); exact zB bh.out (fun _ hk => ⟨hk.1.1, ⟨hk.1.2.1, hk.2⟩⟩)⟩, ⟨by (with_reducible repeat (first | apply zC | apply zD | apply zA)); exact zB f8.out (fun _ hk => ⟨hk.1, ⟨hk.2.1, hk.2.2.2.1⟩⟩)⟩, ⟨rP d.out⟩, ⟨by (with_reducible repeat (first | apply zM | apply zN | apply zL)); exact yB c.out (fun _ hk => ⟨hk.1.1, ⟨hk.1.2.1, ⟨hk.1.2.2.2.2.1, ⟨hk.2, ⟨hk.1.2.2.1, ⟨hk.1.2.2.2.2.2.2.1, ⟨hk.1.2.2.2.2.2.2.2.1, ⟨hk.1.2.2.2.2.2.2.2.2.1, hk.1.2.2.2.2.2.2.2.2.2⟩⟩⟩⟩⟩⟩⟩⟩)⟩, ⟨bP a.out⟩, ⟨bP l.out⟩, ⟨bP s.out⟩, ⟨bP m.out⟩, ⟨bW⟩⟩
     rw [if_neg ci] at H
     have d2 := dF ci
     clear ci
     obtain ⟨a9, cX⟩ : ∃ y_ : List (List Int), y_ = (([ay] : List (List Int))) := ⟨_, rfl⟩
     replace H := bsm cX H
     have b7 := mA cX
     clear cX
     by_cases en : v.length + a9.length < 5864062014805; rotate_left
     ·rw [if_neg en] at H
      exact absurd H (by simp)
     rw [if_pos en] at H
     have cY := mA en
     clear en
     obtain ⟨bi, cZ⟩ : ∃ y_ : List (List Int), y_ = (v ++ a9) := ⟨_, rfl⟩
     rw [← cZ] at H
     have c0 := mA cZ
     clear cZ
     by_cases eo : 0 ≤ A; rotate_left
     ·rw [if_neg eo] at H
      exact absurd H (by simp)
     rw [if_pos eo] at H
     have iG := dT eo
     clear eo
     by_cases ep : A < (r.length : Int); rotate_left
     ·rw [if_neg ep] at H
      exact absurd H (by simp)
     rw [if_pos ep] at H
     have iH := dT ep
     clear ep
     by_cases er : 0 ≤ (rd r A); rotate_left
     ·rw [if_neg er] at H
      exact absurd H (by simp)
     rw [if_pos er] at H
     have iI := dT er
     clear er
     by_cases es : (rd r A) < (T.length : Int); rotate_left
     ·rw [if_neg es] at H
      exact absurd H (by simp)
     rw [if_pos es] at H
     have iJ := dT es
     clear es
     obtain ⟨bq, c1⟩ : ∃ y_ : List Bool, y_ = (([rdOf false T (rd r A)] : List Bool)) := ⟨_, rfl⟩
     replace H := bsm c1 H
     have bv := mA c1
     clear c1
     by_cases et : q.length + bq.length < 140737488355328; rotate_left
     ·rw [if_neg et] at H
      exact absurd H (by simp)
     rw [if_pos et] at H
     have f9 := mA et
     clear et
     obtain ⟨bX, da⟩ : ∃ y_ : List Bool, y_ = (q ++ bq) := ⟨_, rfl⟩
     rw [← da] at H
     have ga := mA da
     clear da
     have H' := mA H
     clear H
     obtain ⟨ah, ai, hv⟩ := yW c.out
     subst hv
     obtain ⟨aa, ab, hw⟩ := zJ d.out
     subst hw
     try go_wp2
     replace O := mA (zA O.out)
     replace P := mA (zA P.out)
     replace X := mA (zA X.out)
     replace d := mA (zA d.out)
     replace c := mA (zL c.out)
     replace a := mA (Zad a.out)
     replace l := mA (Zad l.out)
     replace s := mA (Zad s.out)
     replace m := mA (Zad m.out)
     replace HB := mA (Za0 HB.out)
     obtain ⟨i6, ak, fp⟩ := zJ P.out
     (first | subst fp | (injection fp with aq aH ar; have aI := aq.symm; have aJ := ar.symm; clear aq aH ar; subst aI; subst aJ))
     have dK : 0 ≤ (A : Int) := ofD
     have dL : A < (r.length : Int) := ofD
     obtain ⟨ac, hx, cp⟩ := zI (zE P.out).2.2 A dK dL
     cases hx
     replace dK := eq_true dK
     replace dL := eq_true dL
     have dM : 0 ≤ ((rd r A) : Int) := ofD
     have dN : (rd r A) < (T.length : Int) := ofD
     obtain ⟨aA, hy, a5⟩ := yF b1.out (rd r A) dM dN
     (try rw [← dy.out] at a5)
     have aG := a5
     cases hy
     replace a5 := (HB.out.cell (wB w a5)).trans a5
     replace dM := eq_true dM
     replace dN := eq_true dN
     obtain ⟨fq, fr, fs⟩ := zJ X.out
     (first | subst fs | (injection fs with aq aH ar; have aI := aq.symm; have aJ := ar.symm; clear aq aH ar; subst aI; subst aJ))
     refine Zcq (n := 21) (S := fun w' => w'.cell? ⟨y, 0, none⟩ = some (.int .i64 D) ∧ w'.cell? ⟨y, 1, none⟩ = some (.int .i64 0) ∧ w'.cell? ⟨y, 2, none⟩ = some (.slice aa q.length ab) ∧ w'.cell? ⟨y, 3, none⟩ = some (.slice ah v.length ai) ∧ w'.cell? ⟨u, 0, none⟩ = some (.int .i64 D) ∧ w'.cell? ⟨u, 1, none⟩ = some (.int .i64 I) ∧ w'.cell? ⟨u, 2, none⟩ = some (.slice (some aA) T.length ae) ∧ w'.cell? ⟨u, 3, none⟩ = some (.slice aj B.length af) ∧ w'.cell? (ac.add (A).toNat) = some (.int .i64 (rd r A)) ∧ w'.cell? (aA.add ((rd r A)).toNat) = some (.bool (rdOf false T (rd r A)))) (ds := [16, 18, 20]) #[false, false, false, false, false, false, false, false, false, false, false, false, false, false, false, false, false, false, false, false, false] (by kernel_rfl) rfl rfl ⟨bc m 0, bc m 1, bc m 2, bc m 3, bc a 0, bc a 1, bc a 2, bc a 3, cp, (cB HB aG :)⟩ (fun hHeld => ?_); refine Zb7 Zal.tab24 Zal.bits24 (fun HT_ HW_ => ?_)
     generalize wr.drew = w85 at O P X d c a l s m HB cp a5 hHeld ⊢
     refine Zan (i := 0) (N := some 104) (Zai HT_.out (by kernel_rfl)) ?_
     refine Zan (i := 2) (N := some 106) (Zai HT_.out (by kernel_rfl)) ?_
     refine Zan (i := 5) (N := some 109) (Zai HT_.out (by kernel_rfl)) ?_
     refine Zan (i := 7) (N := some 111) (Zai HT_.out (by kernel_rfl)) ?_
     refine Zan (i := 9) (N := some 113) (Zai HT_.out (by kernel_rfl)) ?_
     refine Zan (i := 10) (N := some 114) (Zai HT_.out (by kernel_rfl)) ?_
     refine Zan (i := 11) (N := some 115) (Zai HT_.out (by kernel_rfl)) ?_
     refine Za8 (i := 1) (N := some 105) (Zaz HT_.out HW_.out (by kernel_rfl)) hHeld ?_
     refine Za8 (i := 6) (N := some 110) (Zaz HT_.out HW_.out (by kernel_rfl)) hHeld ?_
     refine Za8 (i := 8) (N := some 112) (Zaz HT_.out HW_.out (by kernel_rfl)) hHeld ?_
     refine Za8 (i := 12) (N := some 116) (Zaz HT_.out HW_.out (by kernel_rfl)) hHeld ?_
     refine Zan (i := 13) (N := some 117) (Zai HT_.out (by kernel_rfl)) ?_
     refine Za8 (i := 14) (N := some 118) (Zaz HT_.out HW_.out (by kernel_rfl)) hHeld ?_
     refine join_ (σ := Value × Value × Value) 4 #[true, true, true, true, true, true, true, true, true, true, true, true, true, true, true, true, false, true, false, false, false] (fun s_ => [(107, s_.1), (108, s_.2.1), (119, s_.2.2), (121, .pointer (some ⟨y, 3, none⟩))]) (fun s_ w' => (w'.cell? ⟨y, 0, none⟩ = some (.int .i64 D) ∧ w'.cell? ⟨y, 1, none⟩ = some (.int .i64 0) ∧ w'.cell? ⟨y, 2, none⟩ = some (.slice aa q.length ab) ∧ w'.cell? ⟨y, 3, none⟩ = some (.slice ah v.length ai) ∧ w'.cell? ⟨u, 0, none⟩ = some (.int .i64 D) ∧ w'.cell? ⟨u, 1, none⟩ = some (.int .i64 I) ∧ w'.cell? ⟨u, 2, none⟩ = some (.slice (some aA) T.length ae) ∧ w'.cell? ⟨u, 3, none⟩ = some (.slice aj B.length af) ∧ w'.cell? (ac.add (A).toNat) = some (.int .i64 (rd r A)) ∧ w'.cell? (aA.add ((rd r A)).toNat) = some (.bool (rdOf false T (rd r A)))) ∧ (Kd.N (Kd.slice 2 (Kd.int .i64)) 22 w' w.heap.size (fun k_ => (w.heap.size ≤ k_) ∧ some k_ ≠ (s_.2.1 : Value).ownBlock ∧ some k_ ≠ (s_.2.2 : Value).ownBlock ∧ some k_ ≠ (.slice (some E) z.length W : Value).ownBlock ∧ some k_ ≠ (.slice aa q.length ab : Value).ownBlock ∧ some k_ ≠ (.slice (some ac) r.length ak : Value).ownBlock ∧ k_ ≠ u ∧ k_ ≠ x ∧ k_ ≠ G ∧ k_ ≠ y) s_.1 a9) ∧ (Kd.N (Kd.slice 2 (Kd.int .i64)) 22 w' w.heap.size (fun k_ => (w.heap.size ≤ k_) ∧ some k_ ≠ (s_.2.2 : Value).ownBlock ∧ some k_ ≠ (.slice (some E) z.length W : Value).ownBlock ∧ some k_ ≠ (.slice aa q.length ab : Value).ownBlock ∧ some k_ ≠ (.slice (some ac) r.length ak : Value).ownBlock ∧ k_ ≠ u ∧ k_ ≠ x ∧ k_ ≠ G ∧ k_ ≠ y) s_.2.1 bi) ∧ (Kd.R Kd.bool 4 w' w.heap.size (fun k_ => (w.heap.size ≤ k_) ∧ some k_ ≠ (.slice aa q.length ab : Value).ownBlock) s_.2.2 bq) ∧ (Kd.R (Kd.int .i64) 2 w' w.heap.size (fun k_ => (w.heap.size ≤ k_) ∧ some k_ ≠ (.slice (some ac) r.length ak : Value).ownBlock) (.slice (some E) z.length W) z) ∧ (Kd.R Kd.bool 4 w' w.heap.size (fun k_ => (w.heap.size ≤ k_) ∧ some k_ ≠ (s_.2.2 : Value).ownBlock) (.slice aa q.length ab) q) ∧ (Kd.R (Kd.int .i64) 2 w' w.heap.size (fun k_ => (w.heap.size ≤ k_) ∧ some k_ ≠ (.slice (some E) z.length W : Value).ownBlock) (.slice (some ac) r.length ak) r) ∧ (w'.heap[u]? = some (.cells #[.int .i64 D, .int .i64 I, .slice (some aA) T.length ae, .slice aj B.length af] 48 (0, 0))) ∧ (w'.heap[x]? = some (.cells #[.int .i64 0, .int .i64 0, .slice none 0 0, .slice none 0 0] 48 (0, 0))) ∧ (w'.heap[G]? = some (mobj (Value.int .i64) (Value.int .i64) J)) ∧ (w'.heap[y]? = some (.cells #[.int .i64 D, .int .i64 0, .slice aa q.length ab, .slice ah v.length ai] 48 (0, 0))) ∧ (Below w.heap.size w w')) ?_ ?_
     rotate_left
     ·intro hCont
      refine two_ (i := 3) (j := 15) (Ni := some 107) (Nj := some 119) #[true, true, true, true, false, true, true, true, true, true, true, true, true, true, true, false, false, false, false, false, false] #[true, true, true, false, false, true, true, true, true, true, true, true, true, true, true, true, false, false, false, false, false] rfl rfl rfl rfl (two_of HT_.out (by kernel_rfl)) (by decide) (by decide) (fun K hK => ?_) (fun K hK => ?_); rotate_left
      ·skip
       refine xP Kd.bool _ 4 ?hg (N := 119) ?hd (xs := ([rdOf false T (rd r A)] : List Bool)) (inner := [.bool (rdOf false T (rd r A))]) (ok := fun _ => True) (okp := fun _ => True) ?hr ?hp (fun _ hk => hk) trivial (Below.refl _ _) (Nat.le_refl _) (by simp) ?_; (case hd => rfl); (case hg => rfl); (case hr => first | (go_simp; done) | (go_simp; rfl)); (case hp => exact (Reps.one (show Kd.M Kd.bool _ _ _ (rdOf false T (rd r A)) [.bool (rdOf false T (rd r A))] from rfl) (Reps.none _ _)))
       intro az ia bF hb hg_ hnew_
       have aN := (hb.cell (World.block_lt_of_cell? _ _ (hHeld.2.2.2.2.2.2.2.2.1))).trans (hHeld.2.2.2.2.2.2.2.2.1)
       clear hg_ hnew_
       (first | rw [← bv.out] at bF | (simp only [Int.reduceToNat] at bF; rw [← bv.out] at bF))
       replace O := mA (zK (rP O.out) hb)
       replace P := mA (zK (rP P.out) hb)
       replace X := mA (zK (rP X.out) hb)
       replace c := mA (xA (by (with_reducible repeat (first | apply zM | apply zN | apply zL)); exact c.out) (zH bF) hb)
       have am := mA (zP (zS (yP (M := fun k_ => (w.heap.size ≤ k_)) bF (Zag (bW)) (fun k_ h_ => h_)) (zG (rP d.out))) (Zag (bW)))
       replace d := mA (zR (rP d.out) (zH bF) hb)
       replace a := mA (blkB a.out hb)
       replace l := mA (blkB l.out hb)
       replace s := mA (blkB s.out hb)
       replace m := mA (blkB m.out hb)
       replace HB := mA (Zac (bW) hb)
       clear hb bF
       obtain ⟨ft, fu, fv⟩ := zJ X.out
       (first | subst fv | (injection fv with aq aH ar; have aI := aq.symm; have aJ := ar.symm; clear aq aH ar; subst aI; subst aJ))
       refine hK.out _ _ ⟨bc m 0, bc m 1, bc m 2, bc m 3, bc a 0, bc a 1, bc a 2, bc a 3, aN, (cB HB aG :)⟩ (fun hHeld => ?_)
       clear hK K
       refine putS 119 ?_
       refine one_ (i := 3) (N := some 107) #[true, true, true, true, false, true, true, true, true, true, true, true, true, true, true, true, false, false, false, false, false] rfl rfl (Za9 HT_.out (by kernel_rfl)) (by decide) (fun K hK => ?_)
       refine Kd.N_lit_step (Kd.slice 2 (Kd.int .i64)) _ 22 ?hg (N' := 107) ?hd (xs := ([ay] : List (List Int))) (inner := [.slice ft ay.length fu]) (ok := (fun k_ => (w.heap.size ≤ k_) ∧ some k_ ≠ (.slice (some E) z.length W : Value).ownBlock ∧ some k_ ≠ (.slice (some ac) r.length ak : Value).ownBlock ∧ some k_ ≠ (.slice aa q.length ab : Value).ownBlock ∧ some k_ ≠ (.slice ah v.length ai : Value).ownBlock ∧ some k_ ≠ (az : Value).ownBlock ∧ k_ ≠ u ∧ k_ ≠ x ∧ k_ ≠ G ∧ k_ ≠ y)) (okp := (fun k_ => (w.heap.size ≤ k_) ∧ some k_ ≠ (.slice (some E) z.length W : Value).ownBlock ∧ some k_ ≠ (.slice (some ac) r.length ak : Value).ownBlock ∧ some k_ ≠ (.slice aa q.length ab : Value).ownBlock ∧ some k_ ≠ (.slice ah v.length ai : Value).ownBlock ∧ some k_ ≠ (az : Value).ownBlock ∧ k_ ≠ u ∧ k_ ≠ x ∧ k_ ≠ G ∧ k_ ≠ y)) ?hr ?hp (fun _ hk => hk) ((show ∀ k_, ia.heap.size ≤ k_ → (fun k_ => (w.heap.size ≤ k_) ∧ some k_ ≠ (.slice (some E) z.length W : Value).ownBlock ∧ some k_ ≠ (.slice (some ac) r.length ak : Value).ownBlock ∧ some k_ ≠ (.slice aa q.length ab : Value).ownBlock ∧ some k_ ≠ (.slice ah v.length ai : Value).ownBlock ∧ some k_ ≠ (az : Value).ownBlock ∧ k_ ≠ u ∧ k_ ≠ x ∧ k_ ≠ G ∧ k_ ≠ y) k_ from fun k_ hk => ⟨(Nat.le_trans (Zag (bW)) hk), zT (zG (rP O.out)) k_ hk, zT (zG (rP P.out)) k_ hk, zT (zG (rP d.out)) k_ hk, zT (Kd.N_lt (by (with_reducible repeat (first | apply zM | apply zN | apply zL)); exact c.out)) k_ hk, zT (zG (rP am.out)) k_ hk, yG (g := u) (o := .cells #[.int .i64 D, .int .i64 I, .slice (some aA) T.length ae, .slice aj B.length af] 48 (0, 0)) (bP a.out) k_ hk, yG (g := x) (o := .cells #[.int .i64 0, .int .i64 0, .slice none 0 0, .slice none 0 0] 48 (0, 0)) (bP l.out) k_ hk, yG (g := G) (o := mobj (Value.int .i64) (Value.int .i64) J) (bP s.out) k_ hk, yG (g := y) (o := .cells #[.int .i64 D, .int .i64 0, .slice aa q.length ab, .slice ah v.length ai] 48 (0, 0)) (bP m.out) k_ hk⟩) _ (Nat.le_refl _)) (Below.refl _ _) (Nat.le_refl _) (by simp) ?_; (case hd => rfl); (case hg => rfl); (case hr => first | (go_simp; done) | (go_simp; rfl)); (case hp => exact (Reps.one (show Kd.FK (Kd.slice 2 (Kd.int .i64)) _ _ ay [.slice ft ay.length fu] from (qH (zE (zB (ok' := (fun k_ => (w.heap.size ≤ k_) ∧ some k_ ≠ (.slice (some E) z.length W : Value).ownBlock ∧ some k_ ≠ (.slice (some ac) r.length ak : Value).ownBlock ∧ some k_ ≠ (.slice aa q.length ab : Value).ownBlock ∧ some k_ ≠ (.slice ah v.length ai : Value).ownBlock ∧ some k_ ≠ (az : Value).ownBlock ∧ k_ ≠ u ∧ k_ ≠ x ∧ k_ ≠ G ∧ k_ ≠ y)) (yA (Kd.R_typesm (yA (yA (yY (yY (yY (X.out) (yU d.out) (by decide)) (xC c.out) (by decide)) (yU am.out) (by decide)) a.out (by decide)) l.out (by decide)) s.out) m.out (by decide)) (fun k_ hk => ⟨hk.1.1.1.1.1.1.1.1, ⟨hk.1.1.1.1.1.1.1.2.1, ⟨hk.1.1.1.1.1.1.1.2.2, ⟨hk.1.1.1.1.1.1.2, ⟨hk.1.1.1.1.1.2, ⟨hk.1.1.1.1.2, ⟨hk.1.1.1.2, ⟨hk.1.1.2, ⟨hk.1.2, hk.2⟩⟩⟩⟩⟩⟩⟩⟩⟩))).2.1 (Kd.R_F (zB (ok' := (fun k_ => (w.heap.size ≤ k_) ∧ some k_ ≠ (.slice (some E) z.length W : Value).ownBlock ∧ some k_ ≠ (.slice (some ac) r.length ak : Value).ownBlock ∧ some k_ ≠ (.slice aa q.length ab : Value).ownBlock ∧ some k_ ≠ (.slice ah v.length ai : Value).ownBlock ∧ some k_ ≠ (az : Value).ownBlock ∧ k_ ≠ u ∧ k_ ≠ x ∧ k_ ≠ G ∧ k_ ≠ y)) (yA (Kd.R_typesm (yA (yA (yY (yY (yY (X.out) (yU d.out) (by decide)) (xC c.out) (by decide)) (yU am.out) (by decide)) a.out (by decide)) l.out (by decide)) s.out) m.out (by decide)) (fun k_ hk => ⟨hk.1.1.1.1.1.1.1.1, ⟨hk.1.1.1.1.1.1.1.2.1, ⟨hk.1.1.1.1.1.1.1.2.2, ⟨hk.1.1.1.1.1.1.2, ⟨hk.1.1.1.1.1.2, ⟨hk.1.1.1.1.2, ⟨hk.1.1.1.2, ⟨hk.1.1.2, ⟨hk.1.2, hk.2⟩⟩⟩⟩⟩⟩⟩⟩⟩))))) (Reps.none _ _)))
       intro dO gh aP hb hg_ hnew_
       have aN := (hb.cell (World.block_lt_of_cell? _ _ (hHeld.2.2.2.2.2.2.2.2.1))).trans (hHeld.2.2.2.2.2.2.2.2.1)
       clear hg_ hnew_
       (first | rw [← b7.out] at aP | (simp only [Int.reduceToNat] at aP; rw [← b7.out] at aP))
       replace O := mA (zK (rP O.out) hb)
       replace P := mA (zK (rP P.out) hb)
       replace d := mA (zK (rP d.out) hb)
       replace c := mA (xA (by (with_reducible repeat (first | apply zM | apply zN | apply zL)); exact c.out) (xL aP) hb)
       replace am := mA (zK (rP am.out) hb)
       have al := mA (xW aP (Zag (bW)))
       replace a := mA (blkB a.out hb)
       replace l := mA (blkB l.out hb)
       replace s := mA (blkB s.out hb)
       replace m := mA (blkB m.out hb)
       replace HB := mA (Zac (bW) hb)
       clear X hb aP
       obtain ⟨dP, dQ, ce⟩ := yW al.out
       (first | subst ce | (injection ce with aq aH ar; have aI := aq.symm; have aJ := ar.symm; clear aq aH ar; subst aI; subst aJ))
       refine hK.out _ _ ⟨bc m 0, bc m 1, bc m 2, bc m 3, bc a 0, bc a 1, bc a 2, bc a 3, aN, (cB HB aG :)⟩ (fun hHeld => ?_)
       clear hK K
       refine putS 107 ?_
       refine one_ (i := 4) (N := some 108) #[true, true, true, true, true, true, true, true, true, true, true, true, true, true, true, true, false, false, false, false, false] rfl rfl (Za9 HT_.out (by kernel_rfl)) (by decide) (fun K hK => ?_)
       refine qG (Kd.slice 2 (Kd.int .i64)) (w0 := w) w.heap.size (by rfl) (.tmp 105) (.tmp 107) 25 22 (.slice none 0 0) 24 rfl Tryd.underlying25 info22 rfl (by decide) (by omega) (.slice ah v.length ai) v a9 _ _ _ (fun k_ => (w.heap.size ≤ k_) ∧ some k_ ≠ (.slice (some E) z.length W : Value).ownBlock ∧ some k_ ≠ (.slice (some ac) r.length ak : Value).ownBlock ∧ some k_ ≠ (.slice aa q.length ab : Value).ownBlock ∧ some k_ ≠ (az : Value).ownBlock ∧ k_ ≠ u ∧ k_ ≠ x ∧ k_ ≠ G ∧ k_ ≠ y) (fun k_ => ((fun k_ => (w.heap.size ≤ k_) ∧ some k_ ≠ (.slice (some E) z.length W : Value).ownBlock ∧ some k_ ≠ (.slice (some ac) r.length ak : Value).ownBlock ∧ some k_ ≠ (.slice aa q.length ab : Value).ownBlock ∧ some k_ ≠ (az : Value).ownBlock ∧ k_ ≠ u ∧ k_ ≠ x ∧ k_ ≠ G ∧ k_ ≠ y)) k_ ∧ some k_ ≠ (.slice ah v.length ai : Value).ownBlock) rfl rfl ?aO ?aR (fun _ hk => hk) ?aF ?aB ?aS ?aL ?_
       (case aR => exact (by skip; exact Kd.N_F (yB (ok' := (fun k_ => ((fun k_ => (w.heap.size ≤ k_) ∧ some k_ ≠ (.slice (some E) z.length W : Value).ownBlock ∧ some k_ ≠ (.slice (some ac) r.length ak : Value).ownBlock ∧ some k_ ≠ (.slice aa q.length ab : Value).ownBlock ∧ some k_ ≠ (az : Value).ownBlock ∧ k_ ≠ u ∧ k_ ≠ x ∧ k_ ≠ G ∧ k_ ≠ y)) k_ ∧ some k_ ≠ (.slice ah v.length ai : Value).ownBlock)) (al.out) (fun k_ hk => ⟨⟨hk.1, ⟨hk.2.1, ⟨hk.2.2.1, ⟨hk.2.2.2.1, ⟨hk.2.2.2.2.2.1, ⟨hk.2.2.2.2.2.2.1, ⟨hk.2.2.2.2.2.2.2.1, ⟨hk.2.2.2.2.2.2.2.2.1, hk.2.2.2.2.2.2.2.2.2⟩⟩⟩⟩⟩⟩⟩⟩, hk.2.2.2.2.1⟩))))
       (case aB => exact (bW))
       (case aF => exact (fun k_ hk => ⟨(Nat.le_trans (Zag (bW)) hk), zT (zG (rP O.out)) k_ hk, zT (zG (rP P.out)) k_ hk, zT (zG (rP d.out)) k_ hk, zT (zG (rP am.out)) k_ hk, yG (g := u) (o := .cells #[.int .i64 D, .int .i64 I, .slice (some aA) T.length ae, .slice aj B.length af] 48 (0, 0)) (bP a.out) k_ hk, yG (g := x) (o := .cells #[.int .i64 0, .int .i64 0, .slice none 0 0, .slice none 0 0] 48 (0, 0)) (bP l.out) k_ hk, yG (g := G) (o := mobj (Value.int .i64) (Value.int .i64) J) (bP s.out) k_ hk, yG (g := y) (o := .cells #[.int .i64 D, .int .i64 0, .slice aa q.length ab, .slice ah v.length ai] 48 (0, 0)) (bP m.out) k_ hk⟩))
       (case aO => exact (by (with_reducible repeat (first | apply zM | apply zN | apply zL)); exact yB c.out (fun _ hk => ⟨hk.1.1.1, ⟨hk.1.1.2.1, ⟨hk.1.1.2.2.1, ⟨hk.1.1.2.2.2.2.1, ⟨hk.1.2, ⟨hk.1.1.2.2.2.2.2.1, ⟨hk.1.1.2.2.2.2.2.2.1, ⟨hk.1.1.2.2.2.2.2.2.2.1, hk.1.1.2.2.2.2.2.2.2.2⟩⟩⟩⟩⟩⟩⟩⟩)))
       (case aS => exact (Zag (bW)))
       (case aL => have := cY.out; omega)
       intro bj gi ho hb hg hat
       have aN := cell_grown hg (hHeld.2.2.2.2.2.2.2.2.1) (by first | (rw [Zdo]; exact (fun e_ => ((c.out.1 _ e_.symm).1.1.2.2.1) rfl)) | (show some (Addr.add _ _).block ≠ _; rw [Zdo]; exact (fun e_ => ((c.out.1 _ e_.symm).1.1.2.2.1) rfl)) | exact (fun e_ => ((c.out.1 _ e_.symm).1.1.2.2.1) rfl))
       rw [← c0.out] at ho
       replace O := mA (yM (rP O.out) (xC (by (with_reducible repeat (first | apply zM | apply zN | apply zL)); exact c.out)) (by decide) hg)
       replace P := mA (yM (rP P.out) (xC (by (with_reducible repeat (first | apply zM | apply zN | apply zL)); exact c.out)) (by decide) hg)
       replace d := mA (yM (rP d.out) (xC (by (with_reducible repeat (first | apply zM | apply zN | apply zL)); exact c.out)) (by decide) hg)
       replace a := mA (Zaq (g := u) (o := .cells #[.int .i64 D, .int .i64 I, .slice (some aA) T.length ae, .slice aj B.length af] 48 (0, 0)) (bP a.out) hg (Kd.N_ne c.out a.out (by decide)))
       replace l := mA (Zaq (g := x) (o := .cells #[.int .i64 0, .int .i64 0, .slice none 0 0, .slice none 0 0] 48 (0, 0)) (bP l.out) hg (Kd.N_ne c.out l.out (by decide)))
       replace s := mA (Zaq (g := G) (o := mobj (Value.int .i64) (Value.int .i64) J) (bP s.out) hg (Kd.N_nem c.out s.out))
       replace m := mA (Zaq (g := y) (o := .cells #[.int .i64 D, .int .i64 0, .slice aa q.length ab, .slice ah v.length ai] 48 (0, 0)) (bP m.out) hg (Kd.N_ne c.out m.out (by decide)))
       replace am := mA (yM (rP am.out) (xC (by (with_reducible repeat (first | apply zM | apply zN | apply zL)); exact c.out)) (by decide) hg)
       replace al := mA (xR (ok := (fun k_ => (w.heap.size ≤ k_) ∧ some k_ ≠ (.slice (some E) z.length W : Value).ownBlock ∧ some k_ ≠ (.slice (some ac) r.length ak : Value).ownBlock ∧ some k_ ≠ (.slice aa q.length ab : Value).ownBlock ∧ some k_ ≠ (az : Value).ownBlock ∧ k_ ≠ u ∧ k_ ≠ x ∧ k_ ≠ G ∧ k_ ≠ y)) (by (with_reducible repeat (first | apply zM | apply zN | apply zL)); exact yB al.out (fun _ hk => ⟨⟨hk.1, ⟨hk.2.1, ⟨hk.2.2.1, ⟨hk.2.2.2.1, ⟨hk.2.2.2.2.2.1, ⟨hk.2.2.2.2.2.2.1, ⟨hk.2.2.2.2.2.2.2.1, ⟨hk.2.2.2.2.2.2.2.2.1, hk.2.2.2.2.2.2.2.2.2⟩⟩⟩⟩⟩⟩⟩⟩, hk.2.2.2.2.1⟩)) hg hat)
       replace HB := mA (hb)
       have aK := mA (ho)
       clear c ho hb hg hat
       refine hK.out _ _ ⟨bc m 0, bc m 1, bc m 2, bc m 3, bc a 0, bc a 1, bc a 2, bc a 3, aN, (cB HB aG :)⟩ (fun hHeld => ?_)
       clear hK K
       refine putS 108 ?_
       refine Zan (i := 17) (N := some 121) (Zai HT_.out (by kernel_rfl)) ?_
       exact norm_ (by simp only [putAll, Act.put, List.setIfInBounds_toArray, List.set_cons_zero, List.set_cons_succ]) (hCont (.slice dP a9.length dQ, bj, az) _ ⟨hHeld, (by (with_reducible repeat (first | apply zM | apply zN | apply zL)); exact yB al.out (fun _ hk => ⟨hk.1.1, ⟨hk.2, ⟨hk.1.2.2.2.2.1, ⟨hk.1.2.1, ⟨hk.1.2.2.2.1, ⟨hk.1.2.2.1, ⟨hk.1.2.2.2.2.2.1, ⟨hk.1.2.2.2.2.2.2.1, ⟨hk.1.2.2.2.2.2.2.2.1, hk.1.2.2.2.2.2.2.2.2⟩⟩⟩⟩⟩⟩⟩⟩⟩)), (by (with_reducible repeat (first | apply zM | apply zN | apply zL)); exact yB aK.out (fun _ hk => ⟨hk.1, ⟨hk.2.2.2.2.1, ⟨hk.2.1, ⟨hk.2.2.2.1, ⟨hk.2.2.1, ⟨hk.2.2.2.2.2.1, ⟨hk.2.2.2.2.2.2.1, ⟨hk.2.2.2.2.2.2.2.1, hk.2.2.2.2.2.2.2.2⟩⟩⟩⟩⟩⟩⟩⟩)), (by (with_reducible repeat (first | apply zC | apply zD | apply zA)); exact zB am.out (fun _ hk => ⟨hk.1.1, hk.2⟩)), (by (with_reducible repeat (first | apply zC | apply zD | apply zA)); exact zB O.out (fun _ hk => ⟨hk.1, hk.2.1⟩)), (rP d.out), (by (with_reducible repeat (first | apply zC | apply zD | apply zA)); exact zB P.out (fun _ hk => ⟨hk.1, hk.2.1⟩)), (bP a.out), (bP l.out), (bP s.out), (bP m.out), (bW)⟩)
      skip
      refine Kd.N_lit_step (Kd.slice 2 (Kd.int .i64)) _ 22 ?hg (N' := 107) ?hd (xs := ([ay] : List (List Int))) (inner := [.slice fq ay.length fr]) (ok := (fun k_ => (w.heap.size ≤ k_) ∧ some k_ ≠ (.slice (some E) z.length W : Value).ownBlock ∧ some k_ ≠ (.slice (some ac) r.length ak : Value).ownBlock ∧ some k_ ≠ (.slice aa q.length ab : Value).ownBlock ∧ some k_ ≠ (.slice ah v.length ai : Value).ownBlock ∧ k_ ≠ u ∧ k_ ≠ x ∧ k_ ≠ G ∧ k_ ≠ y)) (okp := (fun k_ => (w.heap.size ≤ k_) ∧ some k_ ≠ (.slice (some E) z.length W : Value).ownBlock ∧ some k_ ≠ (.slice (some ac) r.length ak : Value).ownBlock ∧ some k_ ≠ (.slice aa q.length ab : Value).ownBlock ∧ some k_ ≠ (.slice ah v.length ai : Value).ownBlock ∧ k_ ≠ u ∧ k_ ≠ x ∧ k_ ≠ G ∧ k_ ≠ y)) ?hr ?hp (fun _ hk => hk) ((show ∀ k_, w85.heap.size ≤ k_ → (fun k_ => (w.heap.size ≤ k_) ∧ some k_ ≠ (.slice (some E) z.length W : Value).ownBlock ∧ some k_ ≠ (.slice (some ac) r.length ak : Value).ownBlock ∧ some k_ ≠ (.slice aa q.length ab : Value).ownBlock ∧ some k_ ≠ (.slice ah v.length ai : Value).ownBlock ∧ k_ ≠ u ∧ k_ ≠ x ∧ k_ ≠ G ∧ k_ ≠ y) k_ from fun k_ hk => ⟨(Nat.le_trans (Zag (bW)) hk), zT (zG (rP O.out)) k_ hk, zT (zG (rP P.out)) k_ hk, zT (zG (rP d.out)) k_ hk, zT (Kd.N_lt (by (with_reducible repeat (first | apply zM | apply zN | apply zL)); exact c.out)) k_ hk, yG (g := u) (o := .cells #[.int .i64 D, .int .i64 I, .slice (some aA) T.length ae, .slice aj B.length af] 48 (0, 0)) (bP a.out) k_ hk, yG (g := x) (o := .cells #[.int .i64 0, .int .i64 0, .slice none 0 0, .slice none 0 0] 48 (0, 0)) (bP l.out) k_ hk, yG (g := G) (o := mobj (Value.int .i64) (Value.int .i64) J) (bP s.out) k_ hk, yG (g := y) (o := .cells #[.int .i64 D, .int .i64 0, .slice aa q.length ab, .slice ah v.length ai] 48 (0, 0)) (bP m.out) k_ hk⟩) _ (Nat.le_refl _)) (Below.refl _ _) (Nat.le_refl _) (by simp) ?_; (case hd => rfl); (case hg => rfl); (case hr => first | (go_simp; done) | (go_simp; rfl)); (case hp => exact (Reps.one (show Kd.FK (Kd.slice 2 (Kd.int .i64)) _ _ ay [.slice fq ay.length fr] from (qH (zE (zB (ok' := (fun k_ => (w.heap.size ≤ k_) ∧ some k_ ≠ (.slice (some E) z.length W : Value).ownBlock ∧ some k_ ≠ (.slice (some ac) r.length ak : Value).ownBlock ∧ some k_ ≠ (.slice aa q.length ab : Value).ownBlock ∧ some k_ ≠ (.slice ah v.length ai : Value).ownBlock ∧ k_ ≠ u ∧ k_ ≠ x ∧ k_ ≠ G ∧ k_ ≠ y)) (yA (Kd.R_typesm (yA (yA (yY (yY (X.out) (yU d.out) (by decide)) (xC c.out) (by decide)) a.out (by decide)) l.out (by decide)) s.out) m.out (by decide)) (fun k_ hk => ⟨hk.1.1.1.1.1.1.1, ⟨hk.1.1.1.1.1.1.2.1, ⟨hk.1.1.1.1.1.1.2.2, ⟨hk.1.1.1.1.1.2, ⟨hk.1.1.1.1.2, ⟨hk.1.1.1.2, ⟨hk.1.1.2, ⟨hk.1.2, hk.2⟩⟩⟩⟩⟩⟩⟩⟩))).2.1 (Kd.R_F (zB (ok' := (fun k_ => (w.heap.size ≤ k_) ∧ some k_ ≠ (.slice (some E) z.length W : Value).ownBlock ∧ some k_ ≠ (.slice (some ac) r.length ak : Value).ownBlock ∧ some k_ ≠ (.slice aa q.length ab : Value).ownBlock ∧ some k_ ≠ (.slice ah v.length ai : Value).ownBlock ∧ k_ ≠ u ∧ k_ ≠ x ∧ k_ ≠ G ∧ k_ ≠ y)) (yA (Kd.R_typesm (yA (yA (yY (yY (X.out) (yU d.out) (by decide)) (xC c.out) (by decide)) a.out (by decide)) l.out (by decide)) s.out) m.out (by decide)) (fun k_ hk => ⟨hk.1.1.1.1.1.1.1, ⟨hk.1.1.1.1.1.1.2.1, ⟨hk.1.1.1.1.1.1.2.2, ⟨hk.1.1.1.1.1.2, ⟨hk.1.1.1.1.2, ⟨hk.1.1.1.2, ⟨hk.1.1.2, ⟨hk.1.2, hk.2⟩⟩⟩⟩⟩⟩⟩⟩))))) (Reps.none _ _)))
      intro dO jl bY hb hg_ hnew_
      have aN := (hb.cell (World.block_lt_of_cell? _ _ (hHeld.2.2.2.2.2.2.2.2.1))).trans (hHeld.2.2.2.2.2.2.2.2.1)
      clear hg_ hnew_
      (first | rw [← b7.out] at bY | (simp only [Int.reduceToNat] at bY; rw [← b7.out] at bY))
      replace O := mA (zK (rP O.out) hb)
      replace P := mA (zK (rP P.out) hb)
      replace d := mA (zK (rP d.out) hb)
      replace c := mA (xA (by (with_reducible repeat (first | apply zM | apply zN | apply zL)); exact c.out) (xL bY) hb)
      have al := mA (xW bY (Zag (bW)))
      replace a := mA (blkB a.out hb)
      replace l := mA (blkB l.out hb)
      replace s := mA (blkB s.out hb)
      replace m := mA (blkB m.out hb)
      replace HB := mA (Zac (bW) hb)
      clear X hb bY
      obtain ⟨hz, hA, fw⟩ := yW al.out
      (first | subst fw | (injection fw with aq aH ar; have aI := aq.symm; have aJ := ar.symm; clear aq aH ar; subst aI; subst aJ))
      refine hK.out _ _ ⟨bc m 0, bc m 1, bc m 2, bc m 3, bc a 0, bc a 1, bc a 2, bc a 3, aN, (cB HB aG :)⟩ (fun hHeld => ?_)
      clear hK K
      refine putS 107 ?_
      refine two_ (i := 4) (j := 15) (Ni := some 108) (Nj := some 119) #[true, true, true, true, true, true, true, true, true, true, true, true, true, true, true, false, false, false, false, false, false] #[true, true, true, true, false, true, true, true, true, true, true, true, true, true, true, true, false, false, false, false, false] rfl rfl rfl rfl (two_of HT_.out (by kernel_rfl)) (by decide) (by decide) (fun K hK => ?_) (fun K hK => ?_)
      ·skip
       refine qG (Kd.slice 2 (Kd.int .i64)) (w0 := w) w.heap.size (by rfl) (.tmp 105) (.tmp 107) 25 22 (.slice none 0 0) 24 rfl Tryd.underlying25 info22 rfl (by decide) (by omega) (.slice ah v.length ai) v a9 _ _ _ (fun k_ => (w.heap.size ≤ k_) ∧ some k_ ≠ (.slice (some E) z.length W : Value).ownBlock ∧ some k_ ≠ (.slice (some ac) r.length ak : Value).ownBlock ∧ some k_ ≠ (.slice aa q.length ab : Value).ownBlock ∧ k_ ≠ u ∧ k_ ≠ x ∧ k_ ≠ G ∧ k_ ≠ y) (fun k_ => ((fun k_ => (w.heap.size ≤ k_) ∧ some k_ ≠ (.slice (some E) z.length W : Value).ownBlock ∧ some k_ ≠ (.slice (some ac) r.length ak : Value).ownBlock ∧ some k_ ≠ (.slice aa q.length ab : Value).ownBlock ∧ k_ ≠ u ∧ k_ ≠ x ∧ k_ ≠ G ∧ k_ ≠ y)) k_ ∧ some k_ ≠ (.slice ah v.length ai : Value).ownBlock) rfl rfl ?aO ?aR (fun _ hk => hk) ?aF ?aB ?aS ?aL ?_
       (case aR => exact (by skip; exact Kd.N_F (yB (ok' := (fun k_ => ((fun k_ => (w.heap.size ≤ k_) ∧ some k_ ≠ (.slice (some E) z.length W : Value).ownBlock ∧ some k_ ≠ (.slice (some ac) r.length ak : Value).ownBlock ∧ some k_ ≠ (.slice aa q.length ab : Value).ownBlock ∧ k_ ≠ u ∧ k_ ≠ x ∧ k_ ≠ G ∧ k_ ≠ y)) k_ ∧ some k_ ≠ (.slice ah v.length ai : Value).ownBlock)) (al.out) (fun k_ hk => ⟨⟨hk.1, ⟨hk.2.1, ⟨hk.2.2.1, ⟨hk.2.2.2.1, ⟨hk.2.2.2.2.2.1, ⟨hk.2.2.2.2.2.2.1, ⟨hk.2.2.2.2.2.2.2.1, hk.2.2.2.2.2.2.2.2⟩⟩⟩⟩⟩⟩⟩, hk.2.2.2.2.1⟩))))
       (case aB => exact (bW))
       (case aF => exact (fun k_ hk => ⟨(Nat.le_trans (Zag (bW)) hk), zT (zG (rP O.out)) k_ hk, zT (zG (rP P.out)) k_ hk, zT (zG (rP d.out)) k_ hk, yG (g := u) (o := .cells #[.int .i64 D, .int .i64 I, .slice (some aA) T.length ae, .slice aj B.length af] 48 (0, 0)) (bP a.out) k_ hk, yG (g := x) (o := .cells #[.int .i64 0, .int .i64 0, .slice none 0 0, .slice none 0 0] 48 (0, 0)) (bP l.out) k_ hk, yG (g := G) (o := mobj (Value.int .i64) (Value.int .i64) J) (bP s.out) k_ hk, yG (g := y) (o := .cells #[.int .i64 D, .int .i64 0, .slice aa q.length ab, .slice ah v.length ai] 48 (0, 0)) (bP m.out) k_ hk⟩))
       (case aO => exact (by (with_reducible repeat (first | apply zM | apply zN | apply zL)); exact yB c.out (fun _ hk => ⟨hk.1.1, ⟨hk.1.2.1, ⟨hk.1.2.2.1, ⟨hk.1.2.2.2.2.1, ⟨hk.1.2.2.2.2.2.1, ⟨hk.1.2.2.2.2.2.2.1, ⟨hk.1.2.2.2.2.2.2.2.1, hk.1.2.2.2.2.2.2.2.2⟩⟩⟩⟩⟩⟩⟩)))
       (case aS => exact (Zag (bW)))
       (case aL => have := cY.out; omega)
       intro bj gh ho hb hg hat
       have aN := cell_grown hg (hHeld.2.2.2.2.2.2.2.2.1) (by first | (rw [Zdo]; exact (fun e_ => ((c.out.1 _ e_.symm).1.2.2.1) rfl)) | (show some (Addr.add _ _).block ≠ _; rw [Zdo]; exact (fun e_ => ((c.out.1 _ e_.symm).1.2.2.1) rfl)) | exact (fun e_ => ((c.out.1 _ e_.symm).1.2.2.1) rfl))
       rw [← c0.out] at ho
       replace O := mA (yM (rP O.out) (xC (by (with_reducible repeat (first | apply zM | apply zN | apply zL)); exact c.out)) (by decide) hg)
       replace P := mA (yM (rP P.out) (xC (by (with_reducible repeat (first | apply zM | apply zN | apply zL)); exact c.out)) (by decide) hg)
       replace d := mA (yM (rP d.out) (xC (by (with_reducible repeat (first | apply zM | apply zN | apply zL)); exact c.out)) (by decide) hg)
       replace a := mA (Zaq (g := u) (o := .cells #[.int .i64 D, .int .i64 I, .slice (some aA) T.length ae, .slice aj B.length af] 48 (0, 0)) (bP a.out) hg (Kd.N_ne c.out a.out (by decide)))
       replace l := mA (Zaq (g := x) (o := .cells #[.int .i64 0, .int .i64 0, .slice none 0 0, .slice none 0 0] 48 (0, 0)) (bP l.out) hg (Kd.N_ne c.out l.out (by decide)))
       replace s := mA (Zaq (g := G) (o := mobj (Value.int .i64) (Value.int .i64) J) (bP s.out) hg (Kd.N_nem c.out s.out))
       replace m := mA (Zaq (g := y) (o := .cells #[.int .i64 D, .int .i64 0, .slice aa q.length ab, .slice ah v.length ai] 48 (0, 0)) (bP m.out) hg (Kd.N_ne c.out m.out (by decide)))
       replace al := mA (xR (ok := (fun k_ => (w.heap.size ≤ k_) ∧ some k_ ≠ (.slice (some E) z.length W : Value).ownBlock ∧ some k_ ≠ (.slice (some ac) r.length ak : Value).ownBlock ∧ some k_ ≠ (.slice aa q.length ab : Value).ownBlock ∧ k_ ≠ u ∧ k_ ≠ x ∧ k_ ≠ G ∧ k_ ≠ y)) (by (with_reducible repeat (first | apply zM | apply zN | apply zL)); exact yB al.out (fun _ hk => ⟨⟨hk.1, ⟨hk.2.1, ⟨hk.2.2.1, ⟨hk.2.2.2.1, ⟨hk.2.2.2.2.2.1, ⟨hk.2.2.2.2.2.2.1, ⟨hk.2.2.2.2.2.2.2.1, hk.2.2.2.2.2.2.2.2⟩⟩⟩⟩⟩⟩⟩, hk.2.2.2.2.1⟩)) hg hat)
       replace HB := mA (hb)
       have aK := mA (ho)
       clear c ho hb hg hat
       refine hK.out _ _ ⟨bc m 0, bc m 1, bc m 2, bc m 3, bc a 0, bc a 1, bc a 2, bc a 3, aN, (cB HB aG :)⟩ (fun hHeld => ?_)
       clear hK K
       refine putS 108 ?_
       refine Zan (i := 17) (N := some 121) (Zai HT_.out (by kernel_rfl)) ?_
       refine one_ (i := 15) (N := some 119) #[true, true, true, true, true, true, true, true, true, true, true, true, true, true, true, true, false, true, false, false, false] rfl rfl (Za9 HT_.out (by kernel_rfl)) (by decide) (fun K hK => ?_)
       refine xP Kd.bool _ 4 ?hg (N := 119) ?hd (xs := ([rdOf false T (rd r A)] : List Bool)) (inner := [.bool (rdOf false T (rd r A))]) (ok := fun _ => True) (okp := fun _ => True) ?hr ?hp (fun _ hk => hk) trivial (Below.refl _ _) (Nat.le_refl _) (by simp) ?_; (case hd => rfl); (case hg => rfl); (case hr => first | (go_simp; done) | (go_simp; rfl)); (case hp => exact (Reps.one (show Kd.M Kd.bool _ _ _ (rdOf false T (rd r A)) [.bool (rdOf false T (rd r A))] from rfl) (Reps.none _ _)))
       intro az gi br hb hg_ hnew_
       have aN := (hb.cell (World.block_lt_of_cell? _ _ (hHeld.2.2.2.2.2.2.2.2.1))).trans (hHeld.2.2.2.2.2.2.2.2.1)
       clear hg_ hnew_
       (first | rw [← bv.out] at br | (simp only [Int.reduceToNat] at br; rw [← bv.out] at br))
       replace O := mA (zK (rP O.out) hb)
       replace P := mA (zK (rP P.out) hb)
       replace al := mA (xA (by (with_reducible repeat (first | apply zM | apply zN | apply zL)); exact al.out) (zH br) hb)
       replace aK := mA (xA (by (with_reducible repeat (first | apply zM | apply zN | apply zL)); exact aK.out) (zH br) hb)
       have am := mA (zP (zS (yP (M := fun k_ => (w.heap.size ≤ k_)) br (Zag (bW)) (fun k_ h_ => h_)) (zG (rP d.out))) (Zag (bW)))
       replace d := mA (zR (rP d.out) (zH br) hb)
       replace a := mA (blkB a.out hb)
       replace l := mA (blkB l.out hb)
       replace s := mA (blkB s.out hb)
       replace m := mA (blkB m.out hb)
       replace HB := mA (Zac (bW) hb)
       clear hb br
       refine hK.out _ _ ⟨bc m 0, bc m 1, bc m 2, bc m 3, bc a 0, bc a 1, bc a 2, bc a 3, aN, (cB HB aG :)⟩ (fun hHeld => ?_)
       clear hK K
       refine putS 119 ?_
       exact norm_ (by simp only [putAll, Act.put, List.setIfInBounds_toArray, List.set_cons_zero, List.set_cons_succ]) (hCont (.slice hz a9.length hA, bj, az) _ ⟨hHeld, (by (with_reducible repeat (first | apply zM | apply zN | apply zL)); exact yB al.out (fun _ hk => ⟨hk.1.1.1, ⟨hk.1.2, ⟨hk.2, ⟨hk.1.1.2.1, ⟨hk.1.1.2.2.2.1, ⟨hk.1.1.2.2.1, ⟨hk.1.1.2.2.2.2.1, ⟨hk.1.1.2.2.2.2.2.1, ⟨hk.1.1.2.2.2.2.2.2.1, hk.1.1.2.2.2.2.2.2.2⟩⟩⟩⟩⟩⟩⟩⟩⟩)), (by (with_reducible repeat (first | apply zM | apply zN | apply zL)); exact yB aK.out (fun _ hk => ⟨hk.1.1, ⟨hk.2, ⟨hk.1.2.1, ⟨hk.1.2.2.2.1, ⟨hk.1.2.2.1, ⟨hk.1.2.2.2.2.1, ⟨hk.1.2.2.2.2.2.1, ⟨hk.1.2.2.2.2.2.2.1, hk.1.2.2.2.2.2.2.2⟩⟩⟩⟩⟩⟩⟩⟩)), (by (with_reducible repeat (first | apply zC | apply zD | apply zA)); exact zB am.out (fun _ hk => ⟨hk.1.1, hk.2⟩)), (by (with_reducible repeat (first | apply zC | apply zD | apply zA)); exact zB O.out (fun _ hk => ⟨hk.1, hk.2.1⟩)), (rP d.out), (by (with_reducible repeat (first | apply zC | apply zD | apply zA)); exact zB P.out (fun _ hk => ⟨hk.1, hk.2.1⟩)), (bP a.out), (bP l.out), (bP s.out), (bP m.out), (bW)⟩)
      skip
      refine xP Kd.bool _ 4 ?hg (N := 119) ?hd (xs := ([rdOf false T (rd r A)] : List Bool)) (inner := [.bool (rdOf false T (rd r A))]) (ok := fun _ => True) (okp := fun _ => True) ?hr ?hp (fun _ hk => hk) trivial (Below.refl _ _) (Nat.le_refl _) (by simp) ?_; (case hd => rfl); (case hg => rfl); (case hr => first | (go_simp; done) | (go_simp; rfl)); (case hp => exact (Reps.one (show Kd.M Kd.bool _ _ _ (rdOf false T (rd r A)) [.bool (rdOf false T (rd r A))] from rfl) (Reps.none _ _)))
      intro az gh aP hb hg_ hnew_
      have aN := (hb.cell (World.block_lt_of_cell? _ _ (hHeld.2.2.2.2.2.2.2.2.1))).trans (hHeld.2.2.2.2.2.2.2.2.1)
      clear hg_ hnew_
      (first | rw [← bv.out] at aP | (simp only [Int.reduceToNat] at aP; rw [← bv.out] at aP))
      replace O := mA (zK (rP O.out) hb)
      replace P := mA (zK (rP P.out) hb)
      replace c := mA (xA (by (with_reducible repeat (first | apply zM | apply zN | apply zL)); exact c.out) (zH aP) hb)
      replace al := mA (xA (by (with_reducible repeat (first | apply zM | apply zN | apply zL)); exact al.out) (zH aP) hb)
      have am := mA (zP (zS (yP (M := fun k_ => (w.heap.size ≤ k_)) aP (Zag (bW)) (fun k_ h_ => h_)) (zG (rP d.out))) (Zag (bW)))
      replace d := mA (zR (rP d.out) (zH aP) hb)
      replace a := mA (blkB a.out hb)
      replace l := mA (blkB l.out hb)
      replace s := mA (blkB s.out hb)
      replace m := mA (blkB m.out hb)
      replace HB := mA (Zac (bW) hb)
      clear hb aP
      obtain ⟨dP, dQ, ce⟩ := yW al.out
      (first | subst ce | (injection ce with aq aH ar; have aI := aq.symm; have aJ := ar.symm; clear aq aH ar; subst aI; subst aJ))
      refine hK.out _ _ ⟨bc m 0, bc m 1, bc m 2, bc m 3, bc a 0, bc a 1, bc a 2, bc a 3, aN, (cB HB aG :)⟩ (fun hHeld => ?_)
      clear hK K
      refine putS 119 ?_
      refine one_ (i := 4) (N := some 108) #[true, true, true, true, true, true, true, true, true, true, true, true, true, true, true, true, false, false, false, false, false] rfl rfl (Za9 HT_.out (by kernel_rfl)) (by decide) (fun K hK => ?_)
      refine qG (Kd.slice 2 (Kd.int .i64)) (w0 := w) w.heap.size (by rfl) (.tmp 105) (.tmp 107) 25 22 (.slice none 0 0) 24 rfl Tryd.underlying25 info22 rfl (by decide) (by omega) (.slice ah v.length ai) v a9 _ _ _ (fun k_ => (w.heap.size ≤ k_) ∧ some k_ ≠ (.slice (some E) z.length W : Value).ownBlock ∧ some k_ ≠ (.slice (some ac) r.length ak : Value).ownBlock ∧ some k_ ≠ (.slice aa q.length ab : Value).ownBlock ∧ some k_ ≠ (az : Value).ownBlock ∧ k_ ≠ u ∧ k_ ≠ x ∧ k_ ≠ G ∧ k_ ≠ y) (fun k_ => ((fun k_ => (w.heap.size ≤ k_) ∧ some k_ ≠ (.slice (some E) z.length W : Value).ownBlock ∧ some k_ ≠ (.slice (some ac) r.length ak : Value).ownBlock ∧ some k_ ≠ (.slice aa q.length ab : Value).ownBlock ∧ some k_ ≠ (az : Value).ownBlock ∧ k_ ≠ u ∧ k_ ≠ x ∧ k_ ≠ G ∧ k_ ≠ y)) k_ ∧ some k_ ≠ (.slice ah v.length ai : Value).ownBlock) rfl rfl ?aO ?aR (fun _ hk => hk) ?aF ?aB ?aS ?aL ?_
      (case aR => exact (by skip; exact Kd.N_F (yB (ok' := (fun k_ => ((fun k_ => (w.heap.size ≤ k_) ∧ some k_ ≠ (.slice (some E) z.length W : Value).ownBlock ∧ some k_ ≠ (.slice (some ac) r.length ak : Value).ownBlock ∧ some k_ ≠ (.slice aa q.length ab : Value).ownBlock ∧ some k_ ≠ (az : Value).ownBlock ∧ k_ ≠ u ∧ k_ ≠ x ∧ k_ ≠ G ∧ k_ ≠ y)) k_ ∧ some k_ ≠ (.slice ah v.length ai : Value).ownBlock)) (al.out) (fun k_ hk => ⟨⟨hk.1.1, ⟨hk.1.2.1, ⟨hk.1.2.2.1, ⟨hk.1.2.2.2.1, ⟨hk.2, ⟨hk.1.2.2.2.2.2.1, ⟨hk.1.2.2.2.2.2.2.1, ⟨hk.1.2.2.2.2.2.2.2.1, hk.1.2.2.2.2.2.2.2.2⟩⟩⟩⟩⟩⟩⟩⟩, hk.1.2.2.2.2.1⟩))))
      (case aB => exact (bW))
      (case aF => exact (fun k_ hk => ⟨(Nat.le_trans (Zag (bW)) hk), zT (zG (rP O.out)) k_ hk, zT (zG (rP P.out)) k_ hk, zT (zG (rP d.out)) k_ hk, zT (zG (rP am.out)) k_ hk, yG (g := u) (o := .cells #[.int .i64 D, .int .i64 I, .slice (some aA) T.length ae, .slice aj B.length af] 48 (0, 0)) (bP a.out) k_ hk, yG (g := x) (o := .cells #[.int .i64 0, .int .i64 0, .slice none 0 0, .slice none 0 0] 48 (0, 0)) (bP l.out) k_ hk, yG (g := G) (o := mobj (Value.int .i64) (Value.int .i64) J) (bP s.out) k_ hk, yG (g := y) (o := .cells #[.int .i64 D, .int .i64 0, .slice aa q.length ab, .slice ah v.length ai] 48 (0, 0)) (bP m.out) k_ hk⟩))
      (case aO => exact (by (with_reducible repeat (first | apply zM | apply zN | apply zL)); exact yB c.out (fun _ hk => ⟨hk.1.1.1, ⟨hk.1.1.2.1, ⟨hk.1.1.2.2.1, ⟨hk.1.1.2.2.2.2.1, ⟨hk.2, ⟨hk.1.1.2.2.2.2.2.1, ⟨hk.1.1.2.2.2.2.2.2.1, ⟨hk.1.1.2.2.2.2.2.2.2.1, hk.1.1.2.2.2.2.2.2.2.2⟩⟩⟩⟩⟩⟩⟩⟩)))
      (case aS => exact (Zag (bW)))
      (case aL => have := cY.out; omega)
      intro bj gi ho hb hg hat
      have aN := cell_grown hg (hHeld.2.2.2.2.2.2.2.2.1) (by first | (rw [Zdo]; exact (fun e_ => ((c.out.1 _ e_.symm).1.1.2.2.1) rfl)) | (show some (Addr.add _ _).block ≠ _; rw [Zdo]; exact (fun e_ => ((c.out.1 _ e_.symm).1.1.2.2.1) rfl)) | exact (fun e_ => ((c.out.1 _ e_.symm).1.1.2.2.1) rfl))
      rw [← c0.out] at ho
      replace O := mA (yM (rP O.out) (xC (by (with_reducible repeat (first | apply zM | apply zN | apply zL)); exact c.out)) (by decide) hg)
      replace P := mA (yM (rP P.out) (xC (by (with_reducible repeat (first | apply zM | apply zN | apply zL)); exact c.out)) (by decide) hg)
      replace d := mA (yM (rP d.out) (xC (by (with_reducible repeat (first | apply zM | apply zN | apply zL)); exact c.out)) (by decide) hg)
      replace a := mA (Zaq (g := u) (o := .cells #[.int .i64 D, .int .i64 I, .slice (some aA) T.length ae, .slice aj B.length af] 48 (0, 0)) (bP a.out) hg (Kd.N_ne c.out a.out (by decide)))
      replace l := mA (Zaq (g := x) (o := .cells #[.int .i64 0, .int .i64 0, .slice none 0 0, .slice none 0 0] 48 (0, 0)) (bP l.out) hg (Kd.N_ne c.out l.out (by decide)))
      replace s := mA (Zaq (g := G) (o := mobj (Value.int .i64) (Value.int .i64) J) (bP s.out) hg (Kd.N_nem c.out s.out))
      replace m := mA (Zaq (g := y) (o := .cells #[.int .i64 D, .int .i64 0, .slice aa q.length ab, .slice ah v.length ai] 48 (0, 0)) (bP m.out) hg (Kd.N_ne c.out m.out (by decide)))
      replace al := mA (xR (ok := (fun k_ => (w.heap.size ≤ k_) ∧ some k_ ≠ (.slice (some E) z.length W : Value).ownBlock ∧ some k_ ≠ (.slice (some ac) r.length ak : Value).ownBlock ∧ some k_ ≠ (.slice aa q.length ab : Value).ownBlock ∧ some k_ ≠ (az : Value).ownBlock ∧ k_ ≠ u ∧ k_ ≠ x ∧ k_ ≠ G ∧ k_ ≠ y)) (by (with_reducible repeat (first | apply zM | apply zN | apply zL)); exact yB al.out (fun _ hk => ⟨⟨hk.1.1, ⟨hk.1.2.1, ⟨hk.1.2.2.1, ⟨hk.1.2.2.2.1, ⟨hk.2, ⟨hk.1.2.2.2.2.2.1, ⟨hk.1.2.2.2.2.2.2.1, ⟨hk.1.2.2.2.2.2.2.2.1, hk.1.2.2.2.2.2.2.2.2⟩⟩⟩⟩⟩⟩⟩⟩, hk.1.2.2.2.2.1⟩)) hg hat)
      replace am := mA (yM (rP am.out) (xC (by (with_reducible repeat (first | apply zM | apply zN | apply zL)); exact c.out)) (by decide) hg)
      replace HB := mA (hb)
      have aK := mA (ho)
      clear c ho hb hg hat
      refine hK.out _ _ ⟨bc m 0, bc m 1, bc m 2, bc m 3, bc a 0, bc a 1, bc a 2, bc a 3, aN, (cB HB aG :)⟩ (fun hHeld => ?_)
      clear hK K
      refine putS 108 ?_
      refine Zan (i := 17) (N := some 121) (Zai HT_.out (by kernel_rfl)) ?_
      exact norm_ (by simp only [putAll, Act.put, List.setIfInBounds_toArray, List.set_cons_zero, List.set_cons_succ]) (hCont (.slice dP a9.length dQ, bj, az) _ ⟨hHeld, (by (with_reducible repeat (first | apply zM | apply zN | apply zL)); exact yB al.out (fun _ hk => ⟨hk.1.1, ⟨hk.2, ⟨hk.1.2.2.2.2.1, ⟨hk.1.2.1, ⟨hk.1.2.2.2.1, ⟨hk.1.2.2.1, ⟨hk.1.2.2.2.2.2.1, ⟨hk.1.2.2.2.2.2.2.1, ⟨hk.1.2.2.2.2.2.2.2.1, hk.1.2.2.2.2.2.2.2.2⟩⟩⟩⟩⟩⟩⟩⟩⟩)), (by (with_reducible repeat (first | apply zM | apply zN | apply zL)); exact yB aK.out (fun _ hk => ⟨hk.1, ⟨hk.2.2.2.2.1, ⟨hk.2.1, ⟨hk.2.2.2.1, ⟨hk.2.2.1, ⟨hk.2.2.2.2.2.1, ⟨hk.2.2.2.2.2.2.1, ⟨hk.2.2.2.2.2.2.2.1, hk.2.2.2.2.2.2.2.2⟩⟩⟩⟩⟩⟩⟩⟩)), (by (with_reducible repeat (first | apply zC | apply zD | apply zA)); exact zB am.out (fun _ hk => ⟨hk.1.1, hk.2⟩)), (by (with_reducible repeat (first | apply zC | apply zD | apply zA)); exact zB O.out (fun _ hk => ⟨hk.1, hk.2.1⟩)), (rP d.out), (by (with_reducible repeat (first | apply zC | apply zD | apply zA)); exact zB P.out (fun _ hk => ⟨hk.1, hk.2.1⟩)), (bP a.out), (bP l.out), (bP s.out), (bP m.out), (bW)⟩)
     rintro ⟨dO, bj, az⟩ w94 ⟨hS_, db, dc, dd, de, df, dg, dh, di, dj, dk, b9⟩
     have dl : Zaa (Kd.N (Kd.slice 2 (Kd.int .i64)) 22 w94 w.heap.size (fun k_ => (w.heap.size ≤ k_) ∧ some k_ ≠ (bj : Value).ownBlock ∧ some k_ ≠ (az : Value).ownBlock ∧ some k_ ≠ (.slice (some E) z.length W : Value).ownBlock ∧ some k_ ≠ (.slice aa q.length ab : Value).ownBlock ∧ some k_ ≠ (.slice (some ac) r.length ak : Value).ownBlock ∧ k_ ≠ u ∧ k_ ≠ x ∧ k_ ≠ G ∧ k_ ≠ y) dO a9) := ⟨db⟩
     have dm : Zaa (Kd.N (Kd.slice 2 (Kd.int .i64)) 22 w94 w.heap.size (fun k_ => (w.heap.size ≤ k_) ∧ some k_ ≠ (az : Value).ownBlock ∧ some k_ ≠ (.slice (some E) z.length W : Value).ownBlock ∧ some k_ ≠ (.slice aa q.length ab : Value).ownBlock ∧ some k_ ≠ (.slice (some ac) r.length ak : Value).ownBlock ∧ k_ ≠ u ∧ k_ ≠ x ∧ k_ ≠ G ∧ k_ ≠ y) bj bi) := ⟨dc⟩
     have dn : Zaa (Kd.R Kd.bool 4 w94 w.heap.size (fun k_ => (w.heap.size ≤ k_) ∧ some k_ ≠ (.slice aa q.length ab : Value).ownBlock) az bq) := ⟨dd⟩
     have dp : Zaa (Kd.R (Kd.int .i64) 2 w94 w.heap.size (fun k_ => (w.heap.size ≤ k_) ∧ some k_ ≠ (.slice (some ac) r.length ak : Value).ownBlock) (.slice (some E) z.length W) z) := ⟨de⟩
     have dq : Zaa (Kd.R Kd.bool 4 w94 w.heap.size (fun k_ => (w.heap.size ≤ k_) ∧ some k_ ≠ (az : Value).ownBlock) (.slice aa q.length ab) q) := ⟨df⟩
     have dr : Zaa (Kd.R (Kd.int .i64) 2 w94 w.heap.size (fun k_ => (w.heap.size ≤ k_) ∧ some k_ ≠ (.slice (some E) z.length W : Value).ownBlock) (.slice (some ac) r.length ak) r) := ⟨dg⟩
     have dt : Zaa (w94.heap[u]? = some (.cells #[.int .i64 D, .int .i64 I, .slice (some aA) T.length ae, .slice aj B.length af] 48 (0, 0))) := ⟨dh⟩
     have du : Zaa (w94.heap[x]? = some (.cells #[.int .i64 0, .int .i64 0, .slice none 0 0, .slice none 0 0] 48 (0, 0))) := ⟨di⟩
     have dv : Zaa (w94.heap[G]? = some (mobj (Value.int .i64) (Value.int .i64) J)) := ⟨dj⟩
     have dw : Zaa (w94.heap[y]? = some (.cells #[.int .i64 D, .int .i64 0, .slice aa q.length ab, .slice ah v.length ai] 48 (0, 0))) := ⟨dk⟩
     have ca : Zaa (Below w.heap.size w w94) := ⟨b9⟩
     clear O P X d c a l s m HB db dc dd de df dg dh di dj dk b9; have al := dl; have aK := dm; have am := dn; have O := dp; have d := dq; have P := dr; have a := dt; have l := du; have s := dv; have m := dw; have HB := ca; clear dl dm dn dp dq dr dt du dv dw ca
     have hHeld : w94.cell? ⟨y, 0, none⟩ = some (.int .i64 D) ∧ w94.cell? ⟨y, 1, none⟩ = some (.int .i64 0) ∧ w94.cell? ⟨y, 2, none⟩ = some (.slice aa q.length ab) ∧ w94.cell? ⟨y, 3, none⟩ = some (.slice ah v.length ai) ∧ w94.cell? ⟨u, 0, none⟩ = some (.int .i64 D) ∧ w94.cell? ⟨u, 1, none⟩ = some (.int .i64 I) ∧ w94.cell? ⟨u, 2, none⟩ = some (.slice (some aA) T.length ae) ∧ w94.cell? ⟨u, 3, none⟩ = some (.slice aj B.length af) ∧ w94.cell? (ac.add (A).toNat) = some (.int .i64 (rd r A)) ∧ w94.cell? (aA.add ((rd r A)).toNat) = some (.bool (rdOf false T (rd r A))) := hS_
     obtain ⟨dR, dS, fx⟩ := zJ am.out
     (first | subst fx | (injection fx with aq aH ar; have aI := aq.symm; have aJ := ar.symm; clear aq aH ar; subst aI; subst aJ))
     refine norm_ (a' := ?_) ?_ ?_
     rotate_left
     ·simp only [putAll, Act.put, List.setIfInBounds_toArray, List.set_cons_zero, List.set_cons_succ]
      rfl
     refine last_ (i := 16) (N := some 120) #[true, true, true, true, true, true, true, true, true, true, true, true, true, true, true, true, true, true, false, false, false] rfl rfl (Za9 HT_.out (by kernel_rfl)) (by decide) (fun K hK => ?_)
     refine qI Kd.bool (w0 := w) w.heap.size (by rfl) (.tmp 110) (.tmp 119) 46 4 (.bool false) 1 rfl Tryd.underlying46 info4 rfl (by decide) (by omega) (.slice aa q.length ab) q bq _ _ _ (fun k_ => (w.heap.size ≤ k_) ∧ some k_ ≠ (.slice dR bq.length dS : Value).ownBlock) (fun _ => False) rfl rfl ?aO ?aR (fun _ _ h => h) (fun _ h => h.elim) ?aF ?aB ?aS ?aL ?_
     (case aR => exact cP ((zE am.out).2.2))
     (case aB => exact (bW))
     (case aF => exact (fun k_ hk => ⟨(Nat.le_trans (Zag (bW)) hk), zT (zG (rP am.out)) k_ hk⟩))
     (case aO => exact (rP d.out))
     (case aS => exact (Zag (bW)))
     (case aL => have := f9.out; omega)
     intro i7 gj ho hb hg hat
     rw [← ga.out] at ho
     replace O := mA (yM (rP O.out) (yU (rP d.out)) (by decide) hg)
     replace P := mA (yM (rP P.out) (yU (rP d.out)) (by decide) hg)
     replace a := mA (Zaq (g := u) (o := .cells #[.int .i64 D, .int .i64 I, .slice (some aA) T.length ae, .slice aj B.length af] 48 (0, 0)) (bP a.out) hg (zO d.out a.out (by decide)))
     replace l := mA (Zaq (g := x) (o := .cells #[.int .i64 0, .int .i64 0, .slice none 0 0, .slice none 0 0] 48 (0, 0)) (bP l.out) hg (zO d.out l.out (by decide)))
     replace s := mA (Zaq (g := G) (o := mobj (Value.int .i64) (Value.int .i64) J) (bP s.out) hg (Kd.R_nem d.out s.out))
     replace m := mA (Zaq (g := y) (o := .cells #[.int .i64 D, .int .i64 0, .slice aa q.length ab, .slice ah v.length ai] 48 (0, 0)) (bP m.out) hg (zO d.out m.out (by decide)))
     replace al := mA (xR (ok := (fun k_ => (w.heap.size ≤ k_) ∧ some k_ ≠ (.slice (some E) z.length W : Value).ownBlock ∧ some k_ ≠ (.slice (some ac) r.length ak : Value).ownBlock ∧ some k_ ≠ (bj : Value).ownBlock ∧ some k_ ≠ (.slice dR bq.length dS : Value).ownBlock ∧ k_ ≠ u ∧ k_ ≠ x ∧ k_ ≠ G ∧ k_ ≠ y)) (by (with_reducible repeat (first | apply zM | apply zN | apply zL)); exact yB al.out (fun _ hk => ⟨⟨hk.1, ⟨hk.2.2.2.1, ⟨hk.2.2.2.2.2.1, ⟨hk.2.1, ⟨hk.2.2.1, ⟨hk.2.2.2.2.2.2.1, ⟨hk.2.2.2.2.2.2.2.1, ⟨hk.2.2.2.2.2.2.2.2.1, hk.2.2.2.2.2.2.2.2.2⟩⟩⟩⟩⟩⟩⟩⟩, hk.2.2.2.2.1⟩)) hg hat)
     replace aK := mA (xR (ok := (fun k_ => (w.heap.size ≤ k_) ∧ some k_ ≠ (.slice (some E) z.length W : Value).ownBlock ∧ some k_ ≠ (.slice (some ac) r.length ak : Value).ownBlock ∧ some k_ ≠ (.slice dR bq.length dS : Value).ownBlock ∧ k_ ≠ u ∧ k_ ≠ x ∧ k_ ≠ G ∧ k_ ≠ y)) (by (with_reducible repeat (first | apply zM | apply zN | apply zL)); exact yB aK.out (fun _ hk => ⟨⟨hk.1, ⟨hk.2.2.1, ⟨hk.2.2.2.2.1, ⟨hk.2.1, ⟨hk.2.2.2.2.2.1, ⟨hk.2.2.2.2.2.2.1, ⟨hk.2.2.2.2.2.2.2.1, hk.2.2.2.2.2.2.2.2⟩⟩⟩⟩⟩⟩⟩, hk.2.2.2.1⟩)) hg hat)
     replace am := mA (zU (ok := (fun k_ => (w.heap.size ≤ k_))) (rP am.out) hg hat)
     replace HB := mA (hb)
     have eu := mA (ho)
     clear d ho hb hg hat
     obtain ⟨bZ, b0, fy⟩ := yW aK.out
     (first | subst fy | (injection fy with aq aH ar; have aI := aq.symm; have aJ := ar.symm; clear aq aH ar; subst aI; subst aJ))
     obtain ⟨cf, cg, fz⟩ := zJ eu.out
     (first | subst fz | (injection fz with aq aH ar; have aI := aq.symm; have aJ := ar.symm; clear aq aH ar; subst aI; subst aJ))
     refine hK.out _ _ ?_
     clear hK K
     refine putS 120 ?_
     refine last_ (i := 18) (N := none) #[true, true, true, true, true, true, true, true, true, true, true, true, true, true, true, true, true, true, true, false, false] rfl rfl (Za9 HT_.out (by kernel_rfl)) (by decide) (fun K hK => ?_)
     have i8 : gj.cell? ⟨y, 3, none⟩ = some (.slice ah v.length ai) := bc m 3
     have iK := Zab m.out 3
     have hL := ap.out
     have hM := av.out
     have hN := aw.out
     have hO := aY.out
     have hP := a6.out
     have hQ := aZ.out
     refine skip_ (w1 := ?_) (by rfl) rfl ?_ ?_
     rotate_left
     ·go_simp
      rfl
     refine hK.out _ _ ?_
     clear hK K
     refine Zan (i := 19) (N := some 122) (Zai HT_.out (by kernel_rfl)) ?_
     refine last_ (i := 20) (N := none) #[true, true, true, true, true, true, true, true, true, true, true, true, true, true, true, true, true, true, true, true, true] rfl rfl (Za9 HT_.out (by kernel_rfl)) (by decide) (fun K hK => ?_)
     have iL : gj.cell? ⟨y, 2, none⟩ = some (.slice aa q.length ab) := bc m 2
     have ib := Zab m.out 2
     have hB := ap.out
     have hC := av.out
     have hD := aw.out
     have hE := aY.out
     have hF := a6.out
     have hG := aZ.out
     refine skip_ (w1 := ?_) (by rfl) rfl ?_ ?_
     rotate_left
     ·go_simp
      rfl
     refine hK.out _ _ ?_
     clear hK K
     refine Zcz (Zct HT_.out (by kernel_rfl)) ?_
     try go_wp2
     go_roundg k2
     case measure => have := bw.out; have := bx.out; omega
     case rel => exact ⟨(r), (wrap64 (A + 1)), (J), (bX), (bi), (.slice cf bX.length cg), (.slice bZ bi.length b0), (eW), H', ⟨by have := bw.out; have := bx.out; omega⟩, ⟨by (with_reducible repeat (first | apply zC | apply zD | apply zA)); exact zB (zQ (p := ⟨y, 2, none⟩) (zQ (p := ⟨y, 3, none⟩) (yA O.out m.out (by decide)) (fun _ hk => hk.2) (.slice bZ bi.length b0)) (fun _ hk => hk.2) (.slice cf bX.length cg)) (fun _ hk => ⟨hk.1.1, hk.1.2⟩)⟩, ⟨by (with_reducible repeat (first | apply zC | apply zD | apply zA)); exact zB (zQ (p := ⟨y, 2, none⟩) (zQ (p := ⟨y, 3, none⟩) (yA P.out m.out (by decide)) (fun _ hk => hk.2) (.slice bZ bi.length b0)) (fun _ hk => hk.2) (.slice cf bX.length cg)) (fun _ hk => ⟨hk.1.1, hk.1.2⟩)⟩, ⟨by (with_reducible repeat (first | apply zC | apply zD | apply zA)); exact zB (zQ (p := ⟨y, 2, none⟩) (zQ (p := ⟨y, 3, none⟩) (yA eu.out m.out (by decide)) (fun _ hk => hk.2) (.slice bZ bi.length b0)) (fun _ hk => hk.2) (.slice cf bX.length cg)) (fun _ hk => hk.1.1)⟩, ⟨by (with_reducible repeat (first | apply zM | apply zN | apply zL)); exact yB (xF (p := ⟨y, 2, none⟩) (xF (p := ⟨y, 3, none⟩) (yB aK.out (fun k_ hk => (⟨hk, hk.1.2.2.2.2.2.2.2⟩ : _ ∧ k_ ≠ y))) (fun _ hk => hk.2) (.slice bZ bi.length b0)) (fun _ hk => hk.2) (.slice cf bX.length cg)) (fun _ hk => ⟨hk.1.1.1, ⟨hk.1.1.2.1, ⟨hk.1.1.2.2.1, ⟨hk.1.2, ⟨hk.1.1.2.2.2.2.1, ⟨hk.1.1.2.2.2.2.2.1, ⟨hk.1.1.2.2.2.2.2.2.1, hk.1.1.2.2.2.2.2.2.2⟩⟩⟩⟩⟩⟩⟩)⟩, ⟨by (with_reducible repeat (first | refine Zaj ?_ _ | refine Zad ?_ | refine Zaf ?_ _)); refine Zc4 ?_ ap.out _; (with_reducible repeat (first | refine Zaj ?_ _ | refine Zad ?_ | refine Zaf ?_ _)); refine Zc4 ?_ ap.out _; exact bP a.out⟩, ⟨by (with_reducible repeat (first | refine Zaj ?_ _ | refine Zad ?_ | refine Zaf ?_ _)); refine Zc4 ?_ av.out _; (with_reducible repeat (first | refine Zaj ?_ _ | refine Zad ?_ | refine Zaf ?_ _)); refine Zc4 ?_ av.out _; exact bP l.out⟩, ⟨by (with_reducible repeat (first | refine Zaj ?_ _ | refine Zad ?_ | refine Zaf ?_ _)); refine Zc4 ?_ aw.out _; (with_reducible repeat (first | refine Zaj ?_ _ | refine Zad ?_ | refine Zaf ?_ _)); refine Zc4 ?_ aw.out _; exact bP s.out⟩, ⟨by (with_reducible repeat (first | refine Zaj ?_ _ | refine Zad ?_ | refine Zaf ?_ _)); refine Za3 (cs := #[.int .i64 D, .int .i64 0, .slice aa q.length ab, .slice bZ bi.length b0]) ?_ 2 _ rfl; (with_reducible repeat (first | refine Zaj ?_ _ | refine Zad ?_ | refine Zaf ?_ _)); refine Za3 (cs := #[.int .i64 D, .int .i64 0, .slice aa q.length ab, .slice ah v.length ai]) ?_ 3 _ rfl; exact bP m.out⟩, ⟨bW⟩⟩
end Go.Proofs.YtgindgodfcfgkaaDoor.P
end M0
