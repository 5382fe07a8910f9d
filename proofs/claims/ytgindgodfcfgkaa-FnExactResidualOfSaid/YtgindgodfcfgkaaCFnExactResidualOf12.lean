import Derived.Test.YtgindgodfcfgkaaCFnExactResidualOf11
section M0
namespace Go.Proofs.Ytgindgodfcfgkaa.P
open Go.RowKit Go.Proofs.Ytgindgodfcfgkaa.Sh Go.Proofs.YtgindgodfcfgkaaW.PrintWords Go.Proofs.YtgindgodfcfgkaaW.PrintLast Go.Proofs.YtgindgodfcfgkaaW.PrintMore
open Kd
attribute [local go_sem] Zcc Zcd Zck Zcl Zb2 Zb3 Zce Zcb   -- for this text's walks alone
set_option linter.unusedVariables false
set_option linter.unusedSimpArgs false
mutual
def Zag.l0 : Nat → List Int → List Int → List Int → Int → Int → List (List Int) → List Bool → Int → Int → Int → Option (Int × Int × Int × (List (List Int)) × Int)
 | 0, _, _, _, _, _, _, _, _, _, _ => none
 | k + 1, x4, x6, x7, x8, a, b, c, d, e, g => if x8 < (x7.length : Int) then (if 0 ≤ x8 then (Zag.l0 k x4 x6 (x7.set (x8 : Int).toNat (-1)) (wrap64 (x8 + 1)) a b c d e g) else (none)) else (if 0 < (x4.length : Int) then (if (rd x4 0) ≥ 0 then (if 0 ≤ (rd x4 0) then (if (rd x4 0) < (x7.length : Int) then (Zag.j1 k x4 x6 (x7.set ((rd x4 0) : Int).toNat 0) a b c d e g) else (none)) else (none)) else (Zag.j1 k x4 x6 x7 a b c d e g)) else (none))
def Zag.j1 : Nat → List Int → List Int → List Int → Int → List (List Int) → List Bool → Int → Int → Int → Option (Int × Int × Int × (List (List Int)) × Int)
 | 0, _, _, _, _, _, _, _, _, _ => none
 | k + 1, x4, x6, x7, a, b, c, d, e, g => Zag.l1 k x4 x6 x7 0 a b c d e g ([] : List (List Int))
def Zag.l1 : Nat → List Int → List Int → List Int → Int → Int → List (List Int) → List Bool → Int → Int → Int → List (List Int) → Option (Int × Int × Int × (List (List Int)) × Int)
 | 0, _, _, _, _, _, _, _, _, _, _, _ => none
 | k + 1, x4, x6, x7, x9, a, b, c, d, e, g, h => if x9 < (x6.length : Int) then (Zag.l2 k x4 x6 x7 x9 (([] : List Int)) 0 a b c d e g h) else (if (x6.length : Int) > 16 then (some (0, 0, 0, ([] : List (List Int)), (x6.length : Int))) else (Zag.l3 k x6 (x6.length : Int) 0 a b c d e g h))
def Zag.l2 : Nat → List Int → List Int → List Int → Int → List Int → Int → Int → List (List Int) → List Bool → Int → Int → Int → List (List Int) → Option (Int × Int × Int × (List (List Int)) × Int)
 | 0, _, _, _, _, _, _, _, _, _, _, _, _, _ => none
 | k + 1, x4, x6, x7, x9, l, i, b, a, d, e, g, h, c => if i < b then (if 0 ≤ x9 then (if x9 < (x6.length : Int) then (if 0 ≤ (rd x6 x9) then (if (rd x6 x9) < (a.length : Int) then (if 0 ≤ i then (if i < ((Zah a (rd x6 x9)).length : Int) then ((Za8.f x4 (rd (Zah a (rd x6 x9)) i)).bind fun j => (if 0 < (x4.length : Int) then (if (rd x4 0) < 0 then (Zag.j4 k x4 x6 x7 x9 l i j true b a d e g h c) else (Zag.j4 k x4 x6 x7 x9 l i j (decide (j < 0)) b a d e g h c)) else (none))) else (none)) else (none)) else (none)) else (none)) else (none)) else (none)) else (if c.length < 5864062014805 then (Zag.l1 k x4 x6 x7 (wrap64 (x9 + 1)) b a d e g h (c ++ [l])) else (none))
def Zag.j4 : Nat → List Int → List Int → List Int → Int → List Int → Int → Int → Bool → Int → List (List Int) → List Bool → Int → Int → Int → List (List Int) → Option (Int × Int × Int × (List (List Int)) × Int)
 | 0, _, _, _, _, _, _, _, _, _, _, _, _, _, _, _ => none
 | k + 1, x4, x6, x7, x9, i, j, l, n, b, a, c, d, e, g, h => if n = true then (if i.length < 17592186044416 then (Zag.l2 k x4 x6 x7 x9 (i ++ [(-1)]) (wrap64 (j + 1)) b a c d e g h) else (none)) else (if 0 ≤ l then (if l < (x7.length : Int) then (if (rd x7 l) < 0 then ((some (x7.set (l : Int).toNat (x6.length : Int) : List Int)).bind fun m => (if 0 ≤ x9 then (if x9 < (x6.length : Int) then (if 0 ≤ (rd x6 x9) then (if (rd x6 x9) < (a.length : Int) then (if 0 ≤ j then (if j < ((Zah a (rd x6 x9)).length : Int) then (if x6.length < 17592186044416 then (if i.length < 17592186044416 then (Zag.l2 k x4 (x6 ++ [rd (Zah a (rd x6 x9)) j]) m x9 (i ++ [rd m l]) (wrap64 (j + 1)) b a c d e g h) else (none)) else (none)) else (none)) else (none)) else (none)) else (none)) else (none)) else (none))) else (if i.length < 17592186044416 then (Zag.l2 k x4 x6 x7 x9 (i ++ [rd x7 l]) (wrap64 (j + 1)) b a c d e g h) else (none))) else (none)) else (none))
def Zag.l3 : Nat → List Int → Int → Int → Int → List (List Int) → List Bool → Int → Int → Int → List (List Int) → Option (Int × Int × Int × (List (List Int)) × Int)
 | 0, _, _, _, _, _, _, _, _, _, _ => none
 | k + 1, x6, j, b, h, i, a, c, d, e, g => if b < j then (if 0 ≤ b then (if b < (x6.length : Int) then (if 0 ≤ (rd x6 b) then (if (rd x6 b) < (a.length : Int) then (if rdOf false a (rd x6 b) = true then ((Zc7.f b).bind fun l => (Zag.l3 k x6 j (wrap64 (b + 1)) h i a c d (Go.bits .or .i64 e l) g)) else (Zag.l3 k x6 j (wrap64 (b + 1)) h i a c d e g)) else (none)) else (none)) else (none)) else (none)) else (some (c, d, e, g, j))
end
def Zag.f (k : Nat) (b : Int) (a : List (List Int)) (c : List Bool) : Option (Int × Int × Int × (List (List Int)) × Int) := (Zam.f k b a c).bind fun d => (if 0 ≤ (wrap64 ((a.length : Int) + 1)) then (if (wrap64 ((a.length : Int) + 1) : Int).toNat ≤ 35184372088832 then (Zag.l0 k d (([0] : List Int)) (List.replicate (wrap64 ((a.length : Int) + 1) : Int).toNat 0) 0 b a c b 0 0) else (none)) else (none))
def Zag.T18 : Bool × List (List Nat × List Nat) := (true, [([], []), ([], []), ([1], [1]), ([], []), ([], []), ([3, 4], [3, 4]), ([5], [5]), ([2, 6], [2, 6]), ([7], [7]), ([], []), ([8, 9], [8, 9]), ([10], [10]), ([0, 11], [0, 11]), ([12, 12, 0, 1, 2, 3, 4, 5, 6, 7, 8, 9, 10, 11, 12], [12])])
def Zag.B18 : List Nat := [0, 0, 2, 0, 0, 24, 56, 126, 254, 0, 1022, 2046, 4095, 8191]
theorem Zag.tab18 : rtab .any (opsOf Try.f82 18) = Zag.T18 := by kernel_rfl
theorem Zag.bits18 : Zda Zag.T18.2 Zag.B18 = true := by kernel_rfl
def Zag.T23 : Bool × List (List Nat × List Nat) := (true, [([], []), ([], []), ([1], [1]), ([], []), ([], []), ([3, 4], [3, 4]), ([5], [5]), ([2, 6], [2, 6]), ([7], [7]), ([], []), ([8, 9], [8, 9]), ([10], [10]), ([11], [11]), ([0, 12], [0, 12]), ([13, 13, 0, 1, 2, 3, 4, 5, 6, 7, 8, 9, 10, 11, 12, 13], [0, 3, 13])])
def Zag.B23 : List Nat := [0, 0, 2, 0, 0, 24, 56, 126, 254, 0, 1022, 2046, 4094, 8191, 16383]
theorem Zag.tab23 : rtab .any (opsOf Try.f82 23) = Zag.T23 := by kernel_rfl
theorem Zag.bits23 : Zda Zag.T23.2 Zag.B23 = true := by kernel_rfl
def Zag.T32 : Bool × List (List Nat × List Nat) := (true, [([], []), ([0], [0]), ([], []), ([], []), ([2, 3], [2, 3]), ([4], [4]), ([1, 5], [1, 5]), ([6], [6])])
def Zag.B32 : List Nat := [0, 1, 0, 0, 12, 28, 63, 127]
theorem Zag.tab32 : rtab .any (opsOf Try.f82 32) = Zag.T32 := by kernel_rfl
theorem Zag.bits32 : Zda Zag.T32.2 Zag.B32 = true := by kernel_rfl
set_option maxHeartbeats 8000000 in
set_option maxRecDepth 100000 in
theorem Zag.calls (k : Nat) (s : Int) (ap : Option Addr) (ag : Nat) (A : List (List Int)) (ak : Option Addr) (ah : Nat) (P : List Bool) (r1 : Int) (r2 : Int) (r3 : Int) (r4 : List (List Int)) (r5 : Int) (w : World) (ep : Kd.C (Kd.slice 2 (Kd.int .i64)) w ap A.length A) (er : A.length ≤ ag) (es : Kd.C Kd.bool w ak P.length P) (et : P.length ≤ ah) (h : Zag.f k s A P = some (r1, r2, r3, r4, r5)) :
  Calls Try.prog 82 #[.agg #[.int .i64 s, .slice ap A.length ag, .slice ak P.length ah]] w fun e w' => ∃ gB : Value, e = .returned (.tuple #[.agg #[.int .i64 r1, .int .i64 r2, .int .i64 r3, gB], .int .i64 r5]) ∧ Kd.S (Kd.slice 2 (Kd.int .i64)) 33 w' w.heap.size (fun _ => True) gB r4 ∧ Below w.heap.size w w' := by
 have iv := Try.underlying95
 have iw := Try.underlying26
 have de := mA ep
 have fO := mA er
 clear ep er
 have df := mA es
 have fP := mA et
 clear es et
 have HB := mA (Below.refl w.heap.size w)
 unfold Zag.f at h
 have H := h
 clear h
 replace H := bE H
 obtain ⟨r, gC, H⟩ := H
 have A2 := mA gC
 clear gC
 obtain ⟨b6, dg⟩ : ∃ y_ : List Int, y_ = (([0] : List Int)) := ⟨_, rfl⟩
 rw [← dg] at H
 have eu := mA dg
 clear dg
 obtain ⟨bT, b7⟩ : ∃ j_ : Int, (wrap64 ((A.length : Int) + 1)) = j_ := ⟨_, rfl⟩
 replace H : (if 0 ≤ (bT) then (if (bT : Int).toNat ≤ 35184372088832 then (Zag.l0 k r b6 (List.replicate (bT : Int).toNat 0) 0 s A P s 0 0) else (none)) else (none)) = some (r1, r2, r3, r4, r5) := by first | (rw [b7] at H; exact H) | (simp only [b7] at H ⊢; exact H)
 (try rw [b7] at A2)
 have hW : (IntKind.i64.wrap ((A.length : Int) + 1)) = bT := (i64_w _).trans b7
 by_cases c4 : 0 ≤ (bT); rotate_left
 ·rw [if_neg c4] at H
  exact absurd H (by simp)
 rw [if_pos c4] at H
 have cp := eq_true c4
 have cq := dT c4
 clear c4
 by_cases c5 : (bT : Int).toNat ≤ 35184372088832; rotate_left
 ·rw [if_neg c5] at H
  exact absurd H (by simp)
 rw [if_pos c5] at H
 have cr := eq_true c5
 have ct := dT c5
 clear c5
 obtain ⟨gG, dh⟩ : ∃ y_ : List Int, y_ = (List.replicate (bT : Int).toNat 0) := ⟨_, rfl⟩
 rw [← dh] at H
 have ev := mA dh
 clear dh
 have H' := mA H
 clear H
 go_enter Try.func82, Try.ntmps82
 go_wp2_with (first | ((with_reducible refine Zap (N := 1) rfl ?_); refine boxS (N := 1) (cs := #[.int .i64 s, .slice ap A.length ag, .slice ak P.length ah]) (t := 95) ?_; intro O hg w6 hbox hb; have c := mA (hbox); have hX := geW (w := w) hg; have hY := geW (w := w) hg; replace HB := mA (Zaf (bW) hb); clear hb hbox hg) | ((with_reducible refine Zap (N := 2) rfl ?_); refine boxS (N := 2) (cs := #[.int .i64 0, .int .i64 0, .int .i64 0, .slice none 0 0]) (t := 26) ?_; intro W hg w7 hbox hb; have m := mA (hbox); have hZ := geW (w := w) hg; have h0 := geW (w := w) hg; replace HB := mA (Zaf (bW) hb); have aD := mA (neB hg c); have aE := mA (neC hg c); replace c := mA (blkB c.out hb); clear hb hbox hg; have ix := aD.out; have iy := aE.out; obtain ⟨bg, bh, bi⟩ := cells3 c.out; obtain ⟨bj, bk, bl⟩ := frz3 c.out) | ((with_reducible refine Zar (f := 102) rfl ?_); refine Za2 (some 16) Try.func102 #[.agg #[.int .i64 s, .slice ap A.length ag, .slice ak P.length ah]] ?_; (with_reducible refine (Zam.calls k s _ _ A _ _ P r _ ?side1 ?side2 ?side3 ?side4 A2.out).mono ?_); (case side1 => exact cP (zL de.out HB.out)); (case side2 => exact fO.out); (case side3 => exact cP (zL df.out HB.out)); (case side4 => exact fP.out); rintro e iV ⟨cu, rfl, gD, hb⟩; refine ⟨_, rfl, ?_⟩; have aJ := mA (zV gD (Zan (bW))); replace c := mA (blkB c.out hb); replace m := mA (blkB m.out hb); replace HB := mA (Zaf (bW) hb); (try clear hb); (try clear hb2); (try clear hk); (try clear hi); (try clear gD); obtain ⟨aK, aM, aN⟩ := cells3 c.out; obtain ⟨aQ, aR, aT⟩ := frz3 c.out) | ((with_reducible refine Zap (N := 5) rfl ?_); refine boxS (N := 5) (cs := #[.int .i64 0, .int .i64 0, .int .i64 0, .slice none 0 0]) (t := 26) ?_; intro E hg iW hbox hb; replace aJ := mA (zM (rP aJ.out) hb); have d := mA (hbox); have h1 := geW (w := w) hg; have h2 := geW (w := w) hg; replace HB := mA (Zaf (bW) hb); have ae := mA (neB hg c); have aG := mA (neC hg c); replace c := mA (blkB c.out hb); have af := mA (neB hg m); have aH := mA (neC hg m); replace m := mA (blkB m.out hb); clear hb hbox hg; have h3 := aG.out; have h4 := ae.out; have h5 := aH.out; have h6 := af.out; obtain ⟨aU, aV, aW, aX⟩ := Zau d.out; obtain ⟨aY, aZ, a0, a1⟩ := frz4 d.out) | ((with_reducible refine Zap (N := 20) rfl ?_); refine yS (Kd.int .i64) _ 2 ?hg (N := 20) ?hd (xs := ([0] : List Int)) (inner := [.int .i64 0]) (ok := fun _ => True) (okp := fun _ => True) ?hr ?hp (fun _ hk => hk) trivial (Below.refl _ _) (Nat.le_refl _) (by simp) ?_; (case hd => rfl); (case hg => rfl); (case hr => first | (go_simp; done) | (go_simp; rfl)); (case hp => exact (Reps.one (show Kd.M (Kd.int .i64) _ _ _ 0 [.int .i64 0] from rfl) (Reps.none _ _))); intro bd iX b8 hb hg_ hnew_; clear hg_ hnew_; (first | rw [← eu.out] at b8 | (simp only [Int.reduceToNat] at b8; rw [← eu.out] at b8)); have ci := mA (zV (yA b8 (zN (by (with_reducible repeat (first | apply zD | apply zE | apply zA)); exact (zC (zH (p := ⟨E, 3, none⟩) (zH (p := ⟨E, 2, none⟩) (zH (p := ⟨E, 1, none⟩) (zH (p := ⟨E, 0, none⟩) (zX aJ.out d.out (by decide)) (fun _ hk => hk.2) (.int .i64 s)) (fun _ hk => hk.2) (.int .i64 0)) (fun _ hk => hk.2) (.int .i64 0)) (fun _ hk => hk.2) (.slice none 0 0)) (fun _ h_ => h_.1))))) (Zan (bW))); replace aJ := mA (zZ (by (with_reducible repeat (first | apply zD | apply zE | apply zA)); exact (zC (zH (p := ⟨E, 3, none⟩) (zH (p := ⟨E, 2, none⟩) (zH (p := ⟨E, 1, none⟩) (zH (p := ⟨E, 0, none⟩) (zX aJ.out d.out (by decide)) (fun _ hk => hk.2) (.int .i64 s)) (fun _ hk => hk.2) (.int .i64 0)) (fun _ hk => hk.2) (.int .i64 0)) (fun _ hk => hk.2) (.slice none 0 0)) (fun _ h_ => h_.1))) (zT b8) hb); replace c := mA (Za1 (g := O) (o := .cells #[.int .i64 s, .slice ap A.length ag, .slice ak P.length ah] 95 (0, 0)) (by (with_reducible repeat (first | refine Zac ?_ _ | refine Zab ?_ | refine Zaa ?_ _)); refine Zak ?_ ae.out _; (with_reducible repeat (first | refine Zac ?_ _ | refine Zab ?_ | refine Zaa ?_ _)); refine Zak ?_ ae.out _; (with_reducible repeat (first | refine Zac ?_ _ | refine Zab ?_ | refine Zaa ?_ _)); refine Zak ?_ ae.out _; (with_reducible repeat (first | refine Zac ?_ _ | refine Zab ?_ | refine Zaa ?_ _)); refine Zak ?_ ae.out _; exact bP c.out) hb); replace m := mA (Za1 (g := W) (o := .cells #[.int .i64 0, .int .i64 0, .int .i64 0, .slice none 0 0] 26 (0, 0)) (by (with_reducible repeat (first | refine Zac ?_ _ | refine Zab ?_ | refine Zaa ?_ _)); refine Zak ?_ af.out _; (with_reducible repeat (first | refine Zac ?_ _ | refine Zab ?_ | refine Zaa ?_ _)); refine Zak ?_ af.out _; (with_reducible repeat (first | refine Zac ?_ _ | refine Zab ?_ | refine Zaa ?_ _)); refine Zak ?_ af.out _; (with_reducible repeat (first | refine Zac ?_ _ | refine Zab ?_ | refine Zaa ?_ _)); refine Zak ?_ af.out _; exact bP m.out) hb); replace d := mA (Za1 (g := E) (o := .cells #[.int .i64 s, .int .i64 0, .int .i64 0, .slice none 0 0] 26 (0, 0)) (by (with_reducible repeat (first | refine Zac ?_ _ | refine Zab ?_ | refine Zaa ?_ _)); refine Zao (cs := #[.int .i64 s, .int .i64 0, .int .i64 0, .slice none 0 0]) ?_ 3 _ rfl; (with_reducible repeat (first | refine Zac ?_ _ | refine Zab ?_ | refine Zaa ?_ _)); refine Zao (cs := #[.int .i64 s, .int .i64 0, .int .i64 0, .slice none 0 0]) ?_ 2 _ rfl; (with_reducible repeat (first | refine Zac ?_ _ | refine Zab ?_ | refine Zaa ?_ _)); refine Zao (cs := #[.int .i64 s, .int .i64 0, .int .i64 0, .slice none 0 0]) ?_ 1 _ rfl; (with_reducible repeat (first | refine Zac ?_ _ | refine Zab ?_ | refine Zaa ?_ _)); refine Zao (cs := #[.int .i64 0, .int .i64 0, .int .i64 0, .slice none 0 0]) ?_ 0 _ rfl; exact bP d.out) hb); replace HB := mA (Zaf (bW) hb); clear hb b8; obtain ⟨a2, a3, a4⟩ := cells3 c.out; obtain ⟨a5, a6, a7⟩ := frz3 c.out) | ((with_reducible refine Zap (N := 25) rfl ?_); refine xI (Kd.int .i64) _ 2 rfl (N := 25) rfl 33 _ _ rfl bT rfl rfl Try.underlying33 (.int .i64 0) 8 info2 rfl (by decide) (by omega) 0 (ok := fun _ => True) (okp := fun _ => True) rfl (fun _ hk => hk) trivial (ofD) (Nat.le_trans (Nat.mul_le_mul_right _ (ofD : bT.toNat ≤ 35184372088832)) (by omega)) (Below.refl _ _) (Nat.le_refl _) ?_; intro ee iY bL hb hg_ hnew_; clear hg_ hnew_; (first | rw [← ev.out] at bL | (simp only [Int.reduceToNat] at bL; rw [← ev.out] at bL)); have fQ := mA (zV (yA (yA bL (zN (rP aJ.out))) (zN (rP ci.out))) (Zan (bW))); replace aJ := mA (zZ (rP aJ.out) (zT bL) hb); replace ci := mA (zZ (rP ci.out) (zT bL) hb); replace c := mA (blkB c.out hb); replace m := mA (blkB m.out hb); replace d := mA (blkB d.out hb); replace HB := mA (Zaf (bW) hb); clear hb bL))
 go_loopg [8] k (fun kq v8 w' => ∃ (al : List Int) (aI : Int), v8 = .int .i64 aI ∧ Zad (Zag.l0 kq r b6 al aI s A P s 0 0 = some (r1, r2, r3, r4, r5)) ∧ Zad (kq ≤ k) ∧ Zad (Kd.R (Kd.int .i64) 2 w' w.heap.size (fun k_ => some k_ ≠ (bd : Value).ownBlock ∧ some k_ ≠ (ee : Value).ownBlock) cu r) ∧ Zad (Kd.R (Kd.int .i64) 2 w' w.heap.size (fun k_ => some k_ ≠ (cu : Value).ownBlock ∧ some k_ ≠ (ee : Value).ownBlock) bd b6) ∧ Zad (Kd.R (Kd.int .i64) 2 w' w.heap.size (fun k_ => some k_ ≠ (cu : Value).ownBlock ∧ some k_ ≠ (bd : Value).ownBlock) ee al) ∧ Zad (w'.heap[O]? = some (.cells #[.int .i64 s, (.slice ap A.length ag), (.slice ak P.length ah)] 95 (0, 0))) ∧ Zad (w'.heap[W]? = some (.cells #[.int .i64 0, .int .i64 0, .int .i64 0, (.slice none 0 0)] 26 (0, 0))) ∧ Zad (w'.heap[E]? = some (.cells #[.int .i64 s, .int .i64 0, .int .i64 0, (.slice none 0 0)] 26 (0, 0))) ∧ Zad (Below w.heap.size w w'))
 case atStart => exact ⟨(gG), (0), (eW), H', ⟨Nat.le_refl _⟩, ⟨by (with_reducible repeat (first | apply zD | apply zE | apply zA)); exact zC aJ.out (fun _ hk => ⟨hk.1.2, hk.2⟩)⟩, ⟨by (with_reducible repeat (first | apply zD | apply zE | apply zA)); exact zC ci.out (fun _ hk => ⟨hk.1.2, hk.2⟩)⟩, ⟨by (with_reducible repeat (first | apply zD | apply zE | apply zA)); exact zC fQ.out (fun _ hk => ⟨hk.1.2, hk.2⟩)⟩, ⟨bP c.out⟩, ⟨bP m.out⟩, ⟨bP d.out⟩, ⟨bW⟩⟩
 case round =>
  clear H'
  try clear c1
  try clear p2
  try clear c4
  try clear cp
  try clear cq
  try clear c5
  try clear cr
  try clear ct
  try clear p6
  try clear c8
  try clear c10
  try clear c13
  try clear c14
  try clear aK
  try clear aM
  try clear aN
  try clear aU
  try clear aV
  try clear aW
  try clear aX
  try clear a2
  try clear a3
  try clear a4
  try clear bg
  try clear bh
  try clear bi
  try clear aQ
  try clear aR
  try clear aT
  try clear aY
  try clear aZ
  try clear a0
  try clear a1
  try clear a5
  try clear a6
  try clear a7
  try clear bj
  try clear bk
  try clear bl
  obtain ⟨al, aI, rfl, HA, av, B, x, u, c, m, d, HB⟩ := hrel
  cases gk with
  | zero => exact absurd HA.out (by simp [Zag.l0])
  | succ k1 =>
   have H := HA.out
   clear HA
   simp only [Zag.l0] at H
   by_cases bK : aI < (al.length : Int)
   ·rw [if_pos bK] at H
    have bU := dT bK
    clear bK
    by_cases cf : 0 ≤ aI; rotate_left
    ·rw [if_neg cf] at H
     exact absurd H (by simp)
    rw [if_pos cf] at H
    have cj := dT cf
    clear cf
    obtain ⟨fq, di⟩ : ∃ y_ : List Int, y_ = (al.set (aI : Int).toNat (-1)) := ⟨_, rfl⟩
    rw [← di] at H
    have fR := mA di
    clear di
    have H' := mA H
    clear H
    obtain ⟨iz, cv, gH⟩ := zP u.out
    subst gH
    have bm : 0 ≤ (aI : Int) := ofD
    have bn : (aI : Int) < ((al.length : Int) : Int) := ofD
    obtain ⟨bM, iA, fr, fs, gI, iB, ft⟩ := yM u.out (by omega)
    (first | cases fr | (injection fr with ea_ en_ ec_; (first | subst ea_ | (injection ea_ with ea_; subst ea_)); subst ec_; clear en_))
    have gJ := mA fs
    have iC := mA ft
    clear fs gI ft
    obtain ⟨bv, hG⟩ := yF 0 u.out (aI : Int) bm bn
    replace bm := eq_true bm
    replace bn := eq_true bn
    have ef := yG u.out (aI : Int) (-1)
    go_wp2_with (first | ((with_reducible refine Zbl (t := 2) (p := 34) rfl ?_); refine Zc2 (t := 2) (p := 34) (w1 := (wr.setCell ⟨bM, (aI : Int).toNat, none⟩ (.int .i64 (-1)))) ?_; intro fu hw; have hg : wr.grownBy fu (some bM) := (by rw [hw]; exact ef.2); have hp_ : Kd.R (Kd.int .i64) 2 fu w.heap.size (fun k_ => some k_ ≠ (cu : Value).ownBlock ∧ some k_ ≠ (bd : Value).ownBlock) (.slice (some ⟨bM, 0, none⟩) al.length cv) fq := (by rw [hw, fR.out]; exact ef.1); clear ef; replace B := mA (zU (v := (.slice (some ⟨bM, 0, none⟩) al.length cv)) (v1 := (.slice (some ⟨bM, 0, none⟩) al.length cv)) (ok := (fun k_ => some k_ ≠ (bd : Value).ownBlock)) (rP B.out) hg (.inl rfl)); replace x := mA (zU (v := (.slice (some ⟨bM, 0, none⟩) al.length cv)) (v1 := (.slice (some ⟨bM, 0, none⟩) al.length cv)) (ok := (fun k_ => some k_ ≠ (cu : Value).ownBlock)) (rP x.out) hg (.inl rfl)); replace c := mA (Zaq (g := O) (o := .cells #[.int .i64 s, .slice ap A.length ag, .slice ak P.length ah] 95 (0, 0)) (bP c.out) hg (zQ u.out c.out (by decide))); replace m := mA (Zaq (g := W) (o := .cells #[.int .i64 0, .int .i64 0, .int .i64 0, .slice none 0 0] 26 (0, 0)) (bP m.out) hg (zQ u.out m.out (by decide))); replace d := mA (Zaq (g := E) (o := .cells #[.int .i64 s, .int .i64 0, .int .i64 0, .slice none 0 0] 26 (0, 0)) (bP d.out) hg (zQ u.out d.out (by decide))); replace u := mA (hp_); replace HB := mA ((by rw [hw]; exact Za7 (HB.out) gJ.out : Below w.heap.size w fu)); clear hg hw hp_))
    go_roundg k1
    case measure => have := av.out; omega
    case rel => exact ⟨(fq), (wrap64 (aI + 1)), (eW), H', ⟨by have := av.out; omega⟩, ⟨rP B.out⟩, ⟨rP x.out⟩, ⟨rP u.out⟩, ⟨bP c.out⟩, ⟨bP m.out⟩, ⟨bP d.out⟩, ⟨bW⟩⟩
   rw [if_neg bK] at H
   have bU := dF bK
   clear bK
   by_cases bV : 0 < (r.length : Int); rotate_left
   ·rw [if_neg bV] at H
    exact absurd H (by simp)
   rw [if_pos bV] at H
   have ck := dT bV
   have bX : decide (0 < r.length) = true := decide_eq_true (by omega)
   clear bV
   have eg := mA H
   clear H
   obtain ⟨ai, G, gK⟩ := zP u.out
   subst gK
   obtain ⟨iD, J, gL⟩ := zP B.out
   subst gL
   have bw : 0 ≤ (0 : Int) := (by omega)
   have bx : 0 < (r.length : Int) := ofD
   obtain ⟨z, gM, aw⟩ := zO (zK B.out).2.2 0 bw bx
   cases gM
   have h7 : (0 < r.length) = True := eq_true (by omega)
   (try rw [show ((0 : Int)).toNat = 0 from rfl] at aw)
   (try rw [Addr.add_zero'] at aw)
   replace bw := eq_true bw
   replace bx := eq_true bx
   go_upto_if 38 with (fail)
   go_cut [] (fun wc => ∃ (kq : Nat) (ba : List Int), Zad (Zag.j1 kq r b6 ba s A P s 0 0 = some (r1, r2, r3, r4, r5)) ∧ Zad (kq ≤ k1) ∧ Zad (Kd.R (Kd.int .i64) 2 wc w.heap.size (fun k_ => some k_ ≠ (bd : Value).ownBlock ∧ some k_ ≠ ((.slice ai al.length G) : Value).ownBlock) (.slice (some z) r.length J) r) ∧ Zad (Kd.R (Kd.int .i64) 2 wc w.heap.size (fun k_ => some k_ ≠ ((.slice (some z) r.length J) : Value).ownBlock ∧ some k_ ≠ ((.slice ai al.length G) : Value).ownBlock) bd b6) ∧ Zad (Kd.R (Kd.int .i64) 2 wc w.heap.size (fun k_ => some k_ ≠ ((.slice (some z) r.length J) : Value).ownBlock ∧ some k_ ≠ (bd : Value).ownBlock) (.slice ai al.length G) ba) ∧ Zad (wc.heap[O]? = some (.cells #[.int .i64 s, (.slice ap A.length ag), (.slice ak P.length ah)] 95 (0, 0))) ∧ Zad (wc.heap[W]? = some (.cells #[.int .i64 0, .int .i64 0, .int .i64 0, (.slice none 0 0)] 26 (0, 0))) ∧ Zad (wc.heap[E]? = some (.cells #[.int .i64 s, .int .i64 0, .int .i64 0, (.slice none 0 0)] 26 (0, 0))) ∧ Zad (Below w.heap.size w wc))
   case first =>
    have H := eg.out
    clear eg
    by_cases bz : (rd r 0) ≥ 0; rotate_left
    ·rw [if_neg bz] at H
     have aC : decide (0 ≤ (rd r 0)) = false := dF bz
     clear bz
     (first | rw [aC] | (simp only [i64_w, i32_w]; rw [aC]) | skip)
     have H' := mA H
     clear H
     go_wp2
     go_meet
     case rel => exact ⟨_, (al), H', ⟨by have := av.out; first | omega | exact Nat.le_refl _⟩, ⟨rP B.out⟩, ⟨rP x.out⟩, ⟨rP u.out⟩, ⟨bP c.out⟩, ⟨bP m.out⟩, ⟨bP d.out⟩, ⟨bW⟩⟩
    rw [if_pos bz] at H
    have aC : decide (0 ≤ (rd r 0)) = true := dT bz
    clear bz
    (first | rw [aC] | (simp only [i64_w, i32_w]; rw [aC]) | skip)
    by_cases bY : 0 ≤ (rd r 0); rotate_left
    ·rw [if_neg bY] at H
     exact absurd H (by simp)
    rw [if_pos bY] at H
    have bZ := dT bY
    clear bY
    by_cases b0 : (rd r 0) < (al.length : Int); rotate_left
    ·rw [if_neg b0] at H
     exact absurd H (by simp)
    rw [if_pos b0] at H
    have b1 := dT b0
    clear b0
    obtain ⟨fv, dj⟩ : ∃ y_ : List Int, y_ = (al.set ((rd r 0) : Int).toNat 0) := ⟨_, rfl⟩
    rw [← dj] at H
    have fS := mA dj
    clear dj
    have H' := mA H
    clear H
    have bA : 0 ≤ (0 : Int) := (by omega)
    have bB : 0 < (r.length : Int) := ofD
    obtain ⟨fT, gN, ax⟩ := zO (zK B.out).2.2 0 bA bB
    obtain rfl : z = fT := (by injection gN)
    have h8 : (0 < r.length) = True := eq_true (by omega)
    (try rw [show ((0 : Int)).toNat = 0 from rfl] at ax)
    (try rw [Addr.add_zero'] at ax)
    replace bA := eq_true bA
    replace bB := eq_true bB
    have bo : 0 ≤ ((rd r 0) : Int) := ofD
    have bp : ((rd r 0) : Int) < ((al.length : Int) : Int) := ofD
    obtain ⟨bN, iE, fw, fx, gO, iG, fy⟩ := yM u.out (by omega)
    (first | cases fw | (injection fw with ea_ en_ ec_; (first | subst ea_ | (injection ea_ with ea_; subst ea_)); subst ec_; clear en_))
    have gP := mA fx
    have iH := mA fy
    clear fx gO fy
    obtain ⟨bC, hH⟩ := yF 0 u.out ((rd r 0) : Int) bo bp
    replace bo := eq_true bo
    replace bp := eq_true bp
    have eh := yG u.out ((rd r 0) : Int) 0
    go_wp2_with (first | ((with_reducible refine Zbl (t := 2) (p := 43) rfl ?_); refine Zc2 (t := 2) (p := 43) (w1 := (wr.setCell ⟨bN, ((rd r 0) : Int).toNat, none⟩ (.int .i64 0))) ?_; intro fz hw; have hg : wr.grownBy fz (some bN) := (by rw [hw]; exact eh.2); have hp_ : Kd.R (Kd.int .i64) 2 fz w.heap.size (fun k_ => some k_ ≠ (.slice (some z) r.length J : Value).ownBlock ∧ some k_ ≠ (bd : Value).ownBlock) (.slice (some ⟨bN, 0, none⟩) al.length G) fv := (by rw [hw, fS.out]; exact eh.1); clear eh; replace B := mA (zU (v := (.slice (some ⟨bN, 0, none⟩) al.length G)) (v1 := (.slice (some ⟨bN, 0, none⟩) al.length G)) (ok := (fun k_ => some k_ ≠ (bd : Value).ownBlock)) (rP B.out) hg (.inl rfl)); replace x := mA (zU (v := (.slice (some ⟨bN, 0, none⟩) al.length G)) (v1 := (.slice (some ⟨bN, 0, none⟩) al.length G)) (ok := (fun k_ => some k_ ≠ (.slice (some z) r.length J : Value).ownBlock)) (rP x.out) hg (.inl rfl)); replace c := mA (Zaq (g := O) (o := .cells #[.int .i64 s, .slice ap A.length ag, .slice ak P.length ah] 95 (0, 0)) (bP c.out) hg (zQ u.out c.out (by decide))); replace m := mA (Zaq (g := W) (o := .cells #[.int .i64 0, .int .i64 0, .int .i64 0, .slice none 0 0] 26 (0, 0)) (bP m.out) hg (zQ u.out m.out (by decide))); replace d := mA (Zaq (g := E) (o := .cells #[.int .i64 s, .int .i64 0, .int .i64 0, .slice none 0 0] 26 (0, 0)) (bP d.out) hg (zQ u.out d.out (by decide))); replace u := mA (hp_); replace HB := mA ((by rw [hw]; exact Za7 (HB.out) gP.out : Below w.heap.size w fz)); clear hg hw hp_))
    go_meet
    case rel => exact ⟨_, (fv), H', ⟨by have := av.out; first | omega | exact Nat.le_refl _⟩, ⟨rP B.out⟩, ⟨rP x.out⟩, ⟨rP u.out⟩, ⟨bP c.out⟩, ⟨bP m.out⟩, ⟨bP d.out⟩, ⟨bW⟩⟩
   case rest =>
    clear eg
    try clear c1
    try clear p1
    try clear q1
    try clear hx1
    try clear qi1
    try clear c2
    try clear p2
    try clear q2
    try clear hx2
    try clear hf2
    try clear c3
    try clear p3
    try clear q3
    try clear hx3
    try clear hf3
    try clear c4
    try clear cp
    try clear cq
    try clear c5
    try clear cr
    try clear ct
    try clear p6
    try clear c8
    try clear c10
    try clear c13
    try clear c14
    try clear p18
    try clear q18
    try clear hx18
    try clear qi18
    try clear bK
    try clear bU
    try clear cf
    try clear cj
    try clear bm
    try clear bn
    try clear hx23
    try clear hf23
    try clear bV
    try clear ck
    try clear bX
    try clear bz
    try clear aC
    try clear bY
    try clear bZ
    try clear b0
    try clear b1
    try clear bo
    try clear bp
    try clear hx34
    try clear hf34
    try clear aK
    try clear aM
    try clear aN
    try clear aU
    try clear aV
    try clear aW
    try clear aX
    try clear a2
    try clear a3
    try clear a4
    try clear bg
    try clear bh
    try clear bi
    try clear aQ
    try clear aR
    try clear aT
    try clear aY
    try clear aZ
    try clear a0
    try clear a1
    try clear a5
    try clear a6
    try clear a7
    try clear bj
    try clear bk
    try clear bl
    try clear aw
    try clear ax
    try clear bv
    try clear bC
    try clear bw
    try clear bA
    try clear p2
    try clear bm
    try clear bo
    try clear p6
    try clear bx
    try clear bB
    try clear bn
    try clear bp
    obtain ⟨kq, ba, HA, ar, B, x, u, c, m, d, HB⟩ := hcut
    have a := (zK u.out).1
    rw [a] at u
    (try simp only [a])
    (try simp only [a] at c)
    (try simp only [a] at m)
    (try simp only [a] at d)
    (try simp only [a] at B)
    (try simp only [a] at x)
    cases kq with
    | zero => exact absurd HA.out (by simp [Zag.j1])
    | succ fA =>
     have H := HA.out
     clear HA
     simp only [Zag.j1] at H
     have H' := mA H
     clear H
     go_wp2
     go_loopg [6, 9] fA (fun kq v6 v9 w' => ∃ (aa : List Int) (bf : List Int) (I : Int) (X : List (List Int)) (T : Value), v9 = .int .i64 I ∧ Zad (Zag.l1 kq r aa bf I s A P s 0 0 X = some (r1, r2, r3, r4, r5)) ∧ Zad (kq ≤ fA) ∧ Zad (Kd.R (Kd.int .i64) 2 w' w.heap.size (fun k_ => some k_ ≠ (v6 : Value).ownBlock ∧ some k_ ≠ ((.slice ai ba.length G) : Value).ownBlock) (.slice (some z) r.length J) r) ∧ Zad (Kd.R (Kd.int .i64) 2 w' w.heap.size (fun k_ => some k_ ≠ ((.slice (some z) r.length J) : Value).ownBlock ∧ some k_ ≠ ((.slice ai ba.length G) : Value).ownBlock) v6 aa) ∧ Zad (Kd.R (Kd.int .i64) 2 w' w.heap.size (fun k_ => some k_ ≠ ((.slice (some z) r.length J) : Value).ownBlock ∧ some k_ ≠ (v6 : Value).ownBlock) (.slice ai ba.length G) bf) ∧ Zad (Kd.S (Kd.slice 2 (Kd.int .i64)) 33 w' w.heap.size (fun k_ => some k_ ≠ ((.slice (some z) r.length J) : Value).ownBlock ∧ some k_ ≠ (v6 : Value).ownBlock ∧ some k_ ≠ ((.slice ai ba.length G) : Value).ownBlock) T X) ∧ Zad (w'.heap[O]? = some (.cells #[.int .i64 s, (.slice ap A.length ag), (.slice ak P.length ah)] 95 (0, 0))) ∧ Zad (w'.heap[W]? = some (.cells #[.int .i64 0, .int .i64 0, .int .i64 0, (.slice none 0 0)] 26 (0, 0))) ∧ Zad (w'.heap[E]? = some (.cells #[.int .i64 s, .int .i64 0, .int .i64 0, T] 26 (0, 0))) ∧ Zad (Below w.heap.size w w'))
     case atStart => exact ⟨(b6), (ba), (0), (([] : List (List Int))), (.slice none 0 0), (eW), H', ⟨Nat.le_refl _⟩, ⟨by (try simp only [a]); exact rP B.out⟩, ⟨by (try simp only [a]); exact rP x.out⟩, ⟨by (try simp only [a]); exact rP u.out⟩, ⟨by (try simp only [a]); first | exact xC _ _ _ _ _ | exact xE _ _ _ _ _ | exact xF _ _ _ _ _ | exact xB _ _ _ _ _ | exact yT _ _ _ _ _⟩, ⟨by (try simp only [a]); exact bP c.out⟩, ⟨by (try simp only [a]); exact bP m.out⟩, ⟨by (try simp only [a]); exact bP d.out⟩, ⟨bW⟩⟩
     case round =>
      clear H'
      try clear c1
      try clear p1
      try clear q1
      try clear hx1
      try clear qi1
      try clear c2
      try clear p2
      try clear q2
      try clear hx2
      try clear hf2
      try clear c3
      try clear p3
      try clear q3
      try clear hx3
      try clear hf3
      try clear c4
      try clear cp
      try clear cq
      try clear c5
      try clear cr
      try clear ct
      try clear p6
      try clear c8
      try clear c10
      try clear c13
      try clear c14
      try clear p18
      try clear q18
      try clear hx18
      try clear qi18
      try clear bK
      try clear bU
      try clear cf
      try clear cj
      try clear bm
      try clear bn
      try clear hx23
      try clear hf23
      try clear bV
      try clear ck
      try clear bX
      try clear bz
      try clear aC
      try clear bY
      try clear bZ
      try clear b0
      try clear b1
      try clear bo
      try clear bp
      try clear hx34
      try clear hf34
      try clear aK
      try clear aM
      try clear aN
      try clear aU
      try clear aV
      try clear aW
      try clear aX
      try clear a2
      try clear a3
      try clear a4
      try clear bg
      try clear bh
      try clear bi
      try clear aQ
      try clear aR
      try clear aT
      try clear aY
      try clear aZ
      try clear a0
      try clear a1
      try clear a5
      try clear a6
      try clear a7
      try clear bj
      try clear bk
      try clear bl
      try clear aw
      try clear ax
      try clear bv
      try clear bC
      try clear p1
      try clear p18
      try clear bw
      try clear bA
      try clear p2
      try clear bm
      try clear p3
      try clear bo
      try clear p6
      try clear q1
      try clear q18
      try clear bx
      try clear bB
      try clear q2
      try clear bn
      try clear q3
      try clear bp
      obtain ⟨aa, bf, I, X, T, rfl, HA, bb, B, x, u, l, c, m, d, HB⟩ := hrel
      have j := (zK u.out).1
      rw [j] at u
      (try simp only [j])
      (try simp only [j] at c)
      (try simp only [j] at m)
      (try simp only [j] at d)
      (try simp only [j] at B)
      (try simp only [j] at x)
      (try simp only [j] at l)
      cases gk with
      | zero => exact absurd HA.out (by simp [Zag.l1])
      | succ k3 =>
       have H := HA.out
       clear HA
       simp only [Zag.l1] at H
       by_cases b2 : I < (aa.length : Int); rotate_left
       ·rw [if_neg b2] at H
        have bG := dF b2
        (try (have dk := bG; simp only [a, j] at dk))
        clear b2
        by_cases cw : (aa.length : Int) > 16
        ·rw [if_pos cw] at H
         have cm : decide (16 < (aa.length : Int)) = true := dT cw
         (try (have dl := cm; simp only [a, j] at dl))
         have cn : decide (16 < aa.length) = true := decide_eq_true (by omega)
         (try (have dm := cn; simp only [a, j] at dm))
         clear cw
         simp only [Option.some.injEq, Prod.mk.injEq] at H
         obtain ⟨rfl, rfl, rfl, rfl, rfl⟩ := H
         obtain ⟨iI, iJ, gQ⟩ := zP x.out
         subst gQ
         have h9 := aE.out
         have ia := aD.out
         have ib := af.out
         have ic := aH.out
         have eS : wr.cell? ⟨W, 0, none⟩ = some (.int .i64 0) := bc m 0
         have eT : wr.cell? ⟨W, 1, none⟩ = some (.int .i64 0) := bc m 1
         have eU : wr.cell? ⟨W, 2, none⟩ = some (.int .i64 0) := bc m 2
         have eV : wr.cell? ⟨W, 3, none⟩ = some (.slice none 0 0) := bc m 3
         have eX := Zae m.out 0
         have eY := Zae m.out 1
         have eZ := Zae m.out 2
         have e0 := Zae m.out 3
         go_wp2
         refine bodyPost_ret (Zdc rfl _ _ W 26 #[.int .i64 0, .int .i64 0, .int .i64 0, .slice none 0 0] (0, 0) _ rfl (by (with_reducible repeat (first | refine Zac ?_ _ | refine Zab ?_ | refine Zaa ?_ _)); refine Zao (cs := #[.int .i64 0, .int .i64 0, .int .i64 0, .slice none 0 0]) ?_ 3 _ rfl; (with_reducible repeat (first | refine Zac ?_ _ | refine Zab ?_ | refine Zaa ?_ _)); refine Zao (cs := #[.int .i64 0, .int .i64 0, .int .i64 0, .slice none 0 0]) ?_ 2 _ rfl; (with_reducible repeat (first | refine Zac ?_ _ | refine Zab ?_ | refine Zaa ?_ _)); refine Zao (cs := #[.int .i64 0, .int .i64 0, .int .i64 0, .slice none 0 0]) ?_ 1 _ rfl; (with_reducible repeat (first | refine Zac ?_ _ | refine Zab ?_ | refine Zaa ?_ _)); refine Zao (cs := #[.int .i64 0, .int .i64 0, .int .i64 0, .slice none 0 0]) ?_ 0 _ rfl; exact bP m.out) Try.underlying26 rfl (by kernel_rfl)) rfl ?_
         exact ⟨_, by first | rfl | (simp [errW_none, errW_some] <;> rfl) | (simp only [← b7]; first | rfl | (simp [errW_none, errW_some] <;> rfl)) | (simp [*, errW_none, errW_some] <;> rfl), by first | exact xC _ _ _ _ _ | exact xE _ _ _ _ _ | exact xF _ _ _ _ _ | exact xB _ _ _ _ _ | exact yT _ _ _ _ _, bW⟩
        rw [if_neg cw] at H
        have cm : decide (16 < (aa.length : Int)) = false := dF cw
        (try (have dl := cm; simp only [a, j] at dl))
        have cn : decide (16 < aa.length) = false := decide_eq_false (by omega)
        (try (have dm := cn; simp only [a, j] at dm))
        clear cw
        have H' := mA H
        clear H
        obtain ⟨fB, fC, gR⟩ := zP x.out
        subst gR
        go_wp2
        go_loopg [14] k3 (fun kq v14 w' => ∃ (U : Int) (ab : Int), v14 = .int .i64 U ∧ Zad (Zag.l3 kq aa (aa.length : Int) U s A P s 0 ab X = some (r1, r2, r3, r4, r5)) ∧ Zad (kq ≤ k3) ∧ Zad (Kd.R (Kd.int .i64) 2 w' w.heap.size (fun _ => True) (.slice fB aa.length fC) aa) ∧ Zad (Kd.S (Kd.slice 2 (Kd.int .i64)) 33 w' w.heap.size (fun k_ => some k_ ≠ ((.slice fB aa.length fC) : Value).ownBlock) T X) ∧ Zad (w'.heap[O]? = some (.cells #[.int .i64 s, (.slice ap A.length ag), (.slice ak P.length ah)] 95 (0, 0))) ∧ Zad (w'.heap[W]? = some (.cells #[.int .i64 0, .int .i64 0, .int .i64 0, (.slice none 0 0)] 26 (0, 0))) ∧ Zad (w'.heap[E]? = some (.cells #[.int .i64 s, .int .i64 0, .int .i64 ab, T] 26 (0, 0))) ∧ Zad (Below w.heap.size w w'))
        case atStart => exact ⟨(0), (0), (eW), H', ⟨Nat.le_refl _⟩, ⟨by (try simp only [a]); (try simp only [j]); (with_reducible repeat (first | apply zD | apply zE | apply zA)); exact zC x.out (fun _ hk => trivial)⟩, ⟨by (try simp only [a]); (try simp only [j]); (with_reducible repeat (first | apply zI | apply zJ | apply zG)); exact zF l.out (fun _ hk => hk.2.1)⟩, ⟨by (try simp only [a]); (try simp only [j]); exact bP c.out⟩, ⟨by (try simp only [a]); (try simp only [j]); exact bP m.out⟩, ⟨by (try simp only [a]); (try simp only [j]); exact bP d.out⟩, ⟨bW⟩⟩
        case round =>
         clear H'
         try clear p1
         try clear q1
         try clear hx1
         try clear c2
         try clear p2
         try clear q2
         try clear hx2
         try clear c3
         try clear p3
         try clear q3
         try clear hx3
         try clear hf3
         try clear c4
         try clear c5
         try clear c6
         try clear p6
         try clear q6
         try clear hx6
         try clear hf6
         try clear c7
         try clear c8
         try clear c9
         try clear p18
         try clear q18
         try clear hx18
         try clear p19
         try clear q19
         try clear hx19
         try clear c20
         try clear p20
         try clear q20
         try clear hx20
         try clear p21
         try clear q21
         try clear hx21
         try clear bm
         try clear bn
         try clear hx23
         try clear bV
         try clear bX
         try clear bz
         try clear aC
         try clear bY
         try clear bZ
         try clear b0
         try clear b1
         try clear bo
         try clear bp
         try clear hx34
         try clear hf34
         try clear b2
         try clear bG
         try clear cg
         try clear dn
         try clear cI
         try clear ew
         try clear cJ
         try clear dp
         try clear cK
         try clear ey
         try clear cL
         try clear dq
         try clear cM
         try clear ez
         try clear cN
         try clear dr
         try clear c50
         try clear c51
         try clear cO
         try clear b3
         try clear dt
         try clear ch
         try clear du
         try clear dV
         try clear dW
         try clear dX
         try clear fU
         try clear dY
         try clear eA
         try clear cx
         try clear eB
         try clear dZ
         try clear d0
         try clear hx63
         try clear hf63
         try clear d1
         try clear fV
         try clear p64
         try clear d2
         try clear eC
         try clear d3
         try clear fW
         try clear d4
         try clear eD
         try clear d5
         try clear fX
         try clear d6
         try clear eE
         try clear d7
         try clear d8
         try clear d9
         try clear ea
         try clear c80
         try clear c81
         try clear c83
         try clear cw
         try clear cm
         try clear cn
         try clear c91
         try clear c92
         try clear aK
         try clear aM
         try clear aN
         try clear aU
         try clear aV
         try clear aW
         try clear aX
         try clear a2
         try clear a3
         try clear a4
         try clear cQ
         try clear cR
         try clear cS
         try clear e1
         try clear e2
         try clear e3
         try clear e4
         try clear e5
         try clear e6
         try clear e7
         try clear e8
         try clear e9
         try clear fa
         try clear fb
         try clear eS
         try clear eT
         try clear eU
         try clear eV
         try clear bg
         try clear bh
         try clear bi
         try clear aQ
         try clear aR
         try clear aT
         try clear aY
         try clear aZ
         try clear a0
         try clear a1
         try clear a5
         try clear a6
         try clear a7
         try clear cT
         try clear cU
         try clear cV
         try clear fc
         try clear fd
         try clear fe
         try clear ff
         try clear fg
         try clear fh
         try clear fi
         try clear fj
         try clear fk
         try clear fl
         try clear fm
         try clear eX
         try clear eY
         try clear eZ
         try clear e0
         try clear bj
         try clear bk
         try clear bl
         try clear aw
         try clear ax
         try clear bH
         try clear aq
         try clear ay
         try clear az
         try clear b9
         try clear ca
         try clear aA
         try clear a8
         try clear bI
         try clear fn
         try clear bv
         try clear bC
         try clear fD
         try clear p1
         try clear p18
         try clear bw
         try clear bA
         try clear cy
         try clear cz
         try clear cA
         try clear br
         try clear bD
         try clear p2
         try clear dv
         try clear dw
         try clear dx
         try clear dy
         try clear dz
         try clear bm
         try clear p3
         try clear bo
         try clear p6
         try clear dZ
         try clear q1
         try clear q18
         try clear bx
         try clear bB
         try clear cC
         try clear cD
         try clear cE
         try clear bs
         try clear bF
         try clear q2
         try clear dA
         try clear dB
         try clear dC
         try clear dD
         try clear dE
         try clear bn
         try clear q3
         try clear bp
         try clear d0
         obtain ⟨U, ab, rfl, HA, a9, x, l, c, m, d, HB⟩ := hrel
         cases gk with
         | zero => exact absurd HA.out (by simp [Zag.l3])
         | succ k4 =>
          have H := HA.out
          clear HA
          simp only [Zag.l3] at H
          by_cases cW : U < (aa.length : Int); rotate_left
          ·rw [if_neg cW] at H
           have dG := dF cW
           (try (have dH := dG; simp only [a, j] at dH))
           clear cW
           simp only [Option.some.injEq, Prod.mk.injEq] at H
           obtain ⟨rfl, rfl, rfl, rfl, rfl⟩ := H
           have hI := aG.out
           have hJ := ae.out
           have hL := aH.out
           have hM := af.out
           have gS : wr.cell? ⟨E, 0, none⟩ = some (.int .i64 s) := bc d 0
           have gT : wr.cell? ⟨E, 1, none⟩ = some (.int .i64 0) := bc d 1
           have gU : wr.cell? ⟨E, 2, none⟩ = some (.int .i64 ab) := bc d 2
           have gV : wr.cell? ⟨E, 3, none⟩ = some (T) := bc d 3
           have gW := Zae d.out 0
           have gX := Zae d.out 1
           have gY := Zae d.out 2
           have gZ := Zae d.out 3
           have hN := aE.out
           have hO := aD.out
           have g0 : wr.cell? ⟨W, 0, none⟩ = some (.int .i64 0) := bc m 0
           have g1 : wr.cell? ⟨W, 1, none⟩ = some (.int .i64 0) := bc m 1
           have g2 : wr.cell? ⟨W, 2, none⟩ = some (.int .i64 0) := bc m 2
           have g3 : wr.cell? ⟨W, 3, none⟩ = some (.slice none 0 0) := bc m 3
           have g4 := Zae m.out 0
           have g5 := Zae m.out 1
           have g6 := Zae m.out 2
           have g7 := Zae m.out 3
           obtain ⟨eF, eG, fY⟩ := yD l.out
           subst fY
           go_wp2
           refine bodyPost_ret (Zdc rfl _ _ W 26 #[.int .i64 s, .int .i64 0, .int .i64 ab, .slice eF X.length eG] (0, 0) _ rfl (by (with_reducible repeat (first | refine Zac ?_ _ | refine Zab ?_ | refine Zaa ?_ _)); refine Zao (cs := #[.int .i64 s, .int .i64 0, .int .i64 ab, .slice none 0 0]) ?_ 3 _ rfl; (with_reducible repeat (first | refine Zac ?_ _ | refine Zab ?_ | refine Zaa ?_ _)); refine Zao (cs := #[.int .i64 s, .int .i64 0, .int .i64 0, .slice none 0 0]) ?_ 2 _ rfl; (with_reducible repeat (first | refine Zac ?_ _ | refine Zab ?_ | refine Zaa ?_ _)); refine Zao (cs := #[.int .i64 s, .int .i64 0, .int .i64 0, .slice none 0 0]) ?_ 1 _ rfl; (with_reducible repeat (first | refine Zac ?_ _ | refine Zab ?_ | refine Zaa ?_ _)); refine Zao (cs := #[.int .i64 0, .int .i64 0, .int .i64 0, .slice none 0 0]) ?_ 0 _ rfl; exact bP m.out) Try.underlying26 rfl (by kernel_rfl)) rfl ?_
           exact ⟨_, by first | rfl | (simp [errW_none, errW_some] <;> rfl) | (simp only [← b7]; first | rfl | (simp [errW_none, errW_some] <;> rfl)) | (simp [*, errW_none, errW_some] <;> rfl), by (with_reducible repeat (first | apply zI | apply zJ | apply zG)); exact zF (zB (p := ⟨W, 3, none⟩) (zB (p := ⟨W, 2, none⟩) (zB (p := ⟨W, 1, none⟩) (zB (p := ⟨W, 0, none⟩) (zR l.out m.out (by decide)) (fun _ hk => hk.2) (.int .i64 s)) (fun _ hk => hk.2) (.int .i64 0)) (fun _ hk => hk.2) (.int .i64 ab)) (fun _ hk => hk.2) (.slice eF X.length eG)) (fun _ hk => trivial), bW⟩
          rw [if_pos cW] at H
          have dG := dT cW
          (try (have dH := dG; simp only [a, j] at dH))
          clear cW
          by_cases eH : 0 ≤ U; rotate_left
          ·rw [if_neg eH] at H
           exact absurd H (by simp)
          rw [if_pos eH] at H
          have ie := dT eH
          clear eH
          by_cases eI : U < (aa.length : Int); rotate_left
          ·rw [if_neg eI] at H
           exact absurd H (by simp)
          rw [if_pos eI] at H
          have fZ := dT eI
          (try (have f0 := fZ; simp only [a, j] at f0))
          clear eI
          by_cases eJ : 0 ≤ (rd aa U); rotate_left
          ·rw [if_neg eJ] at H
           exact absurd H (by simp)
          rw [if_pos eJ] at H
          have ig := dT eJ
          clear eJ
          by_cases eK : (rd aa U) < (P.length : Int); rotate_left
          ·rw [if_neg eK] at H
           exact absurd H (by simp)
          rw [if_pos eK] at H
          have f1 := dT eK
          (try (have f2 := f1; simp only [a, j] at f2))
          clear eK
          obtain ⟨f3, cF⟩ : ∃ b_ : Bool, b_ = (rdOf false P (rd aa U)) := ⟨_, rfl⟩
          rw [← cF] at H
          have eb := mA cF
          clear cF
          by_cases dI : f3 = true; rotate_left
          ·replace dI := Bool.eq_false_iff.mpr dI
           subst dI
           rw [iF] at H
           have H' := mA H
           clear H
           try go_wp2
           replace x := mA (zA x.out)
           replace l := mA (zG l.out)
           replace c := mA (Zab c.out)
           replace m := mA (Zab m.out)
           replace d := mA (Zab d.out)
           replace HB := mA (Za3 HB.out)
           have bO : 0 ≤ (U : Int) := ofD
           have bQ : U < (aa.length : Int) := ofD
           obtain ⟨dJ, ei, bq⟩ := zO (zK x.out).2.2 U bO bQ
           cases ei
           replace bO := eq_true bO
           replace bQ := eq_true bQ
           have bR : 0 ≤ ((rd aa U) : Int) := ofD
           have bS : (rd aa U) < (P.length : Int) := ofD
           obtain ⟨b4, ej, aj⟩ := yC df.out (rd aa U) bR bS
           (try rw [← eb.out] at aj)
           have cb := aj
           cases ej
           replace aj := (HB.out.cell (wB w aj)).trans aj
           replace bR := eq_true bR
           replace bS := eq_true bS
           refine start_ (n := 8) (S := fun w' => w'.cell? ⟨O, 0, none⟩ = some (.int .i64 s) ∧ w'.cell? ⟨O, 1, none⟩ = some (.slice ap A.length ag) ∧ w'.cell? ⟨O, 2, none⟩ = some (.slice (some b4) P.length ah) ∧ w'.cell? (dJ.add (U).toNat) = some (.int .i64 (rd aa U)) ∧ w'.cell? (b4.add ((rd aa U)).toNat) = some (.bool false)) (ds := []) #[false, false, false, false, false, false, false, false] (by kernel_rfl) rfl rfl ⟨bc c 0, bc c 1, bc c 2, bq, (cB HB cb :)⟩ (fun hHeld => ?_); refine Zc0 Zag.tab32 Zag.bits32 (fun HT_ HW_ => ?_)
           generalize wr.drew = w106 at x l c m d HB bq aj hHeld ⊢
           refine Zav (i := 0) (N := some 129) (Zaw HT_.out (by kernel_rfl)) ?_
           refine Zav (i := 2) (N := some 131) (Zaw HT_.out (by kernel_rfl)) ?_
           refine Zav (i := 3) (N := some 132) (Zaw HT_.out (by kernel_rfl)) ?_
           refine Zav (i := 4) (N := some 133) (Zaw HT_.out (by kernel_rfl)) ?_
           refine Zbt (i := 1) (N := some 130) (Zbb HT_.out HW_.out (by kernel_rfl)) hHeld ?_
           refine Zbt (i := 5) (N := some 134) (Zbb HT_.out HW_.out (by kernel_rfl)) hHeld ?_
           refine Zav (i := 6) (N := some 135) (Zaw HT_.out (by kernel_rfl)) ?_
           refine Zbt (i := 7) (N := some 136) (Zbb HT_.out HW_.out (by kernel_rfl)) hHeld ?_
           refine done_ (done_of HT_.out (by kernel_rfl)) ?_
           try go_wp2
           go_roundg k4
           case measure => have := av.out; have := ar.out; have := bb.out; have := a9.out; omega
           case rel => exact ⟨(wrap64 (U + 1)), (ab), (eW), H', ⟨by have := av.out; have := ar.out; have := bb.out; have := a9.out; omega⟩, ⟨by (try simp only [a]); (try simp only [j]); exact rP x.out⟩, ⟨by (try simp only [a]); (try simp only [j]); exact sP l.out⟩, ⟨by (try simp only [a]); (try simp only [j]); exact bP c.out⟩, ⟨by (try simp only [a]); (try simp only [j]); exact bP m.out⟩, ⟨by (try simp only [a]); (try simp only [j]); exact bP d.out⟩, ⟨bW⟩⟩
          subst dI
          rw [if_pos rfl] at H
          replace H := bE H
          obtain ⟨dK, eL, H⟩ := H
          have g8 := mA eL
          clear eL
          have H' := mA H
          clear H
          try go_wp2
          replace x := mA (zA x.out)
          replace l := mA (zG l.out)
          replace c := mA (Zab c.out)
          replace m := mA (Zab m.out)
          replace d := mA (Zab d.out)
          replace HB := mA (Za3 HB.out)
          have bO : 0 ≤ (U : Int) := ofD
          have bQ : U < (aa.length : Int) := ofD
          obtain ⟨dJ, ei, bq⟩ := zO (zK x.out).2.2 U bO bQ
          cases ei
          replace bO := eq_true bO
          replace bQ := eq_true bQ
          have bR : 0 ≤ ((rd aa U) : Int) := ofD
          have bS : (rd aa U) < (P.length : Int) := ofD
          obtain ⟨b4, ej, aj⟩ := yC df.out (rd aa U) bR bS
          (try rw [← eb.out] at aj)
          have cb := aj
          cases ej
          replace aj := (HB.out.cell (wB w aj)).trans aj
          replace bR := eq_true bR
          replace bS := eq_true bS
          refine start_ (n := 8) (S := fun w' => w'.cell? ⟨O, 0, none⟩ = some (.int .i64 s) ∧ w'.cell? ⟨O, 1, none⟩ = some (.slice ap A.length ag) ∧ w'.cell? ⟨O, 2, none⟩ = some (.slice (some b4) P.length ah) ∧ w'.cell? (dJ.add (U).toNat) = some (.int .i64 (rd aa U)) ∧ w'.cell? (b4.add ((rd aa U)).toNat) = some (.bool true)) (ds := []) #[false, false, false, false, false, false, false, false] (by kernel_rfl) rfl rfl ⟨bc c 0, bc c 1, bc c 2, bq, (cB HB cb :)⟩ (fun hHeld => ?_); refine Zc0 Zag.tab32 Zag.bits32 (fun HT_ HW_ => ?_)
          generalize wr.drew = g9 at x l c m d HB bq aj hHeld ⊢
          refine Zav (i := 0) (N := some 129) (Zaw HT_.out (by kernel_rfl)) ?_
          refine Zav (i := 2) (N := some 131) (Zaw HT_.out (by kernel_rfl)) ?_
          refine Zav (i := 3) (N := some 132) (Zaw HT_.out (by kernel_rfl)) ?_
          refine Zav (i := 4) (N := some 133) (Zaw HT_.out (by kernel_rfl)) ?_
          refine Zbt (i := 1) (N := some 130) (Zbb HT_.out HW_.out (by kernel_rfl)) hHeld ?_
          refine Zbt (i := 5) (N := some 134) (Zbb HT_.out HW_.out (by kernel_rfl)) hHeld ?_
          refine Zav (i := 6) (N := some 135) (Zaw HT_.out (by kernel_rfl)) ?_
          refine Zbt (i := 7) (N := some 136) (Zbb HT_.out HW_.out (by kernel_rfl)) hHeld ?_
          refine done_ (done_of HT_.out (by kernel_rfl)) ?_
          try go_wp2
          replace x := mA (zA x.out)
          replace l := mA (zG l.out)
          replace c := mA (Zab c.out)
          replace m := mA (Zab m.out)
          replace d := mA (Zab d.out)
          replace HB := mA (Za3 HB.out)
          refine start_ (n := 7) (S := fun w' => w'.cell? ⟨E, 0, none⟩ = some (.int .i64 s) ∧ w'.cell? ⟨E, 1, none⟩ = some (.int .i64 0) ∧ w'.cell? ⟨E, 2, none⟩ = some (.int .i64 ab) ∧ w'.cell? ⟨E, 3, none⟩ = some (T)) (ds := [6]) #[false, false, false, false, false, false, false] (by kernel_rfl) rfl rfl ⟨bc d 0, bc d 1, bc d 2, bc d 3⟩ (fun hHeld => ?_)
          generalize g9.drew = w104 at x l c m d HB hHeld ⊢
          refine Zav (i := 0) (N := some 137) (by kernel_rfl) ?_
          refine Zav (i := 2) (N := some 139) (by kernel_rfl) ?_
          refine Zbt (i := 1) (N := some 138) (by kernel_rfl) hHeld ?_
          refine one_ (i := 3) (N := some 140) #[true, true, true, true, false, false, false] rfl rfl (by kernel_rfl) (by decide) (fun K hK => ?_)
          refine goes_ Try.func90 (by kernel_rfl) rfl #[.int .i64 U] (by rfl) rfl rfl (by (try simp only [List.map_toArray, List.map_cons, List.map_nil]); first | done | rfl | (simp only [List.length_drop, List.length_take]; rfl)) ?_
          with_reducible refine (Zc7.calls U dK _ g8.out).mono ?_
          rintro e w' ⟨rfl, ⟨nd, rfl⟩⟩
          refine ⟨_, rfl, ?_⟩
          refine hK.out _ _ ⟨bc d 0, bc d 1, bc d 2, bc d 3⟩ (fun hHeld => ?_)
          clear hK K
          refine putS 140 ?_
          refine Zav (i := 4) (N := some 141) (by kernel_rfl) ?_
          refine Zav (i := 5) (N := some 142) (by kernel_rfl) ?_
          refine last_ (i := 6) (N := none) #[true, true, true, true, true, true, true] rfl rfl (by kernel_rfl) (by decide) (fun K hK => ?_)
          have ih : w104.cell? ⟨E, 2, none⟩ = some (.int .i64 ab) := bc d 2
          have hP := Zae d.out 2
          have ha := ae.out
          have hc := af.out
          have he := aG.out
          have hf := aH.out
          refine skip_ (w1 := ?_) (by rfl) rfl ?_ ?_
          rotate_left
          ·go_simp
           rfl
          refine hK.out _ _ ?_
          clear hK K
          refine done_ (by kernel_rfl) ?_
          try go_wp2
          go_roundg k4
          case measure => have := av.out; have := ar.out; have := bb.out; have := a9.out; omega
          case rel => exact ⟨(wrap64 (U + 1)), (Go.bits .or .i64 ab dK), (eW), H', ⟨by have := av.out; have := ar.out; have := bb.out; have := a9.out; omega⟩, ⟨by (try simp only [a]); (try simp only [j]); (with_reducible repeat (first | apply zD | apply zE | apply zA)); exact zC (zH (p := ⟨E, 2, none⟩) (zX x.out d.out (by decide)) (fun _ hk => hk.2) (.int .i64 (Go.bits .or .i64 ab dK))) (fun _ hk => trivial)⟩, ⟨by (try simp only [a]); (try simp only [j]); (with_reducible repeat (first | apply zI | apply zJ | apply zG)); exact zF (zB (p := ⟨E, 2, none⟩) (zR l.out d.out (by decide)) (fun _ hk => hk.2) (.int .i64 (Go.bits .or .i64 ab dK))) (fun _ hk => hk.1)⟩, ⟨by (try simp only [a]); (try simp only [j]); (with_reducible repeat (first | refine Zac ?_ _ | refine Zab ?_ | refine Zaa ?_ _)); refine Zak ?_ ae.out _; exact bP c.out⟩, ⟨by (try simp only [a]); (try simp only [j]); (with_reducible repeat (first | refine Zac ?_ _ | refine Zab ?_ | refine Zaa ?_ _)); refine Zak ?_ af.out _; exact bP m.out⟩, ⟨by (try simp only [a]); (try simp only [j]); (with_reducible repeat (first | refine Zac ?_ _ | refine Zab ?_ | refine Zaa ?_ _)); refine Zao (cs := #[.int .i64 s, .int .i64 0, .int .i64 ab, T]) ?_ 2 _ rfl; exact bP d.out⟩, ⟨bW⟩⟩
       rw [if_pos b2] at H
       have bG := dT b2
       (try (have dk := bG; simp only [a, j] at dk))
       clear b2
       obtain ⟨fE, dL⟩ : ∃ y_ : List Int, y_ = (([] : List Int)) := ⟨_, rfl⟩
       replace H : (Zag.l2 k3 r aa bf I fE 0 s A P s 0 0 X) = some (r1, r2, r3, r4, r5) := by rw [dL]; with_reducible exact H
       have eM := mA dL
       clear dL
       have H' := mA H
       clear H
       obtain ⟨iK, iL, hh⟩ := zP x.out
       subst hh
       go_wp2_with (first | ((with_reducible refine Zap (N := 50) rfl ?_); refine yS (Kd.int .i64) _ 2 ?hg (N := 50) ?hd (xs := ([] : List Int)) (inner := []) (ok := fun _ => True) (okp := fun _ => True) ?hr ?hp (fun _ hk => hk) trivial (Below.refl _ _) (Nat.le_refl _) (by simp) ?_; (case hd => rfl); (case hg => rfl); (case hr => first | (go_simp; done) | (go_simp; rfl)); (case hp => exact (Reps.none _ _)); intro iM iZ bu hb hg_ hnew_; clear hg_ hnew_; (first | rw [← eM.out] at bu | (simp only [Int.reduceToNat] at bu; rw [← eM.out] at bu)); replace l := mA (yK (sP l.out) (zT bu) hb); have f4 := mA (zV (yA (yA (yA bu (zN (rP B.out))) (zN (rP x.out))) (zN (rP u.out))) (Zan (bW))); replace B := mA (zZ (rP B.out) (zT bu) hb); replace x := mA (zZ (rP x.out) (zT bu) hb); replace u := mA (zZ (rP u.out) (zT bu) hb); replace c := mA (blkB c.out hb); replace m := mA (blkB m.out hb); replace d := mA (blkB d.out hb); replace HB := mA (Zaf (bW) hb); clear hb bu))
       go_loopg [6, 10, 11] k3 (fun kq v6 v10 v11 w' => ∃ (y : List Int) (D : List Int) (am : List Int) (Y : Int), v11 = .int .i64 Y ∧ Zad (Zag.l2 kq r y D I am Y s A P s 0 0 X = some (r1, r2, r3, r4, r5)) ∧ Zad (kq ≤ k3) ∧ Zad (Kd.R (Kd.int .i64) 2 w' w.heap.size (fun k_ => some k_ ≠ (v6 : Value).ownBlock ∧ some k_ ≠ ((.slice ai bf.length G) : Value).ownBlock ∧ some k_ ≠ (v10 : Value).ownBlock) (.slice (some z) r.length J) r) ∧ Zad (Kd.R (Kd.int .i64) 2 w' w.heap.size (fun k_ => some k_ ≠ ((.slice (some z) r.length J) : Value).ownBlock ∧ some k_ ≠ ((.slice ai bf.length G) : Value).ownBlock ∧ some k_ ≠ (v10 : Value).ownBlock) v6 y) ∧ Zad (Kd.R (Kd.int .i64) 2 w' w.heap.size (fun k_ => some k_ ≠ ((.slice (some z) r.length J) : Value).ownBlock ∧ some k_ ≠ (v6 : Value).ownBlock ∧ some k_ ≠ (v10 : Value).ownBlock) (.slice ai bf.length G) D) ∧ Zad (Kd.R (Kd.int .i64) 2 w' w.heap.size (fun k_ => some k_ ≠ ((.slice (some z) r.length J) : Value).ownBlock ∧ some k_ ≠ (v6 : Value).ownBlock ∧ some k_ ≠ ((.slice ai bf.length G) : Value).ownBlock) v10 am) ∧ Zad (Kd.S (Kd.slice 2 (Kd.int .i64)) 33 w' w.heap.size (fun k_ => some k_ ≠ ((.slice (some z) r.length J) : Value).ownBlock ∧ some k_ ≠ (v6 : Value).ownBlock ∧ some k_ ≠ ((.slice ai bf.length G) : Value).ownBlock ∧ some k_ ≠ (v10 : Value).ownBlock) T X) ∧ Zad (w'.heap[O]? = some (.cells #[.int .i64 s, (.slice ap A.length ag), (.slice ak P.length ah)] 95 (0, 0))) ∧ Zad (w'.heap[W]? = some (.cells #[.int .i64 0, .int .i64 0, .int .i64 0, (.slice none 0 0)] 26 (0, 0))) ∧ Zad (w'.heap[E]? = some (.cells #[.int .i64 s, .int .i64 0, .int .i64 0, T] 26 (0, 0))) ∧ Zad (Below w.heap.size w w'))
       case atStart => exact ⟨(aa), (bf), (fE), (0), (eW), H', ⟨Nat.le_refl _⟩, ⟨by (try simp only [a]); (try simp only [j]); (with_reducible repeat (first | apply zD | apply zE | apply zA)); exact zC B.out (fun _ hk => ⟨hk.1.1, ⟨hk.1.2, hk.2⟩⟩)⟩, ⟨by (try simp only [a]); (try simp only [j]); (with_reducible repeat (first | apply zD | apply zE | apply zA)); exact zC x.out (fun _ hk => ⟨hk.1.1, ⟨hk.1.2, hk.2⟩⟩)⟩, ⟨by (try simp only [a]); (try simp only [j]); (with_reducible repeat (first | apply zD | apply zE | apply zA)); exact zC u.out (fun _ hk => ⟨hk.1.1, ⟨hk.1.2, hk.2⟩⟩)⟩, ⟨by (try simp only [a]); (try simp only [j]); (with_reducible repeat (first | apply zD | apply zE | apply zA)); exact zC f4.out (fun _ hk => ⟨hk.1.1.2, ⟨hk.1.2, hk.2⟩⟩)⟩, ⟨by (try simp only [a]); (try simp only [j]); (with_reducible repeat (first | apply zI | apply zJ | apply zG)); exact zF l.out (fun _ hk => ⟨hk.1.1, ⟨hk.1.2.1, ⟨hk.1.2.2, hk.2⟩⟩⟩)⟩, ⟨by (try simp only [a]); (try simp only [j]); exact bP c.out⟩, ⟨by (try simp only [a]); (try simp only [j]); exact bP m.out⟩, ⟨by (try simp only [a]); (try simp only [j]); exact bP d.out⟩, ⟨bW⟩⟩
       case round =>
        clear H'
        try clear c1
        try clear p1
        try clear q1
        try clear hx1
        try clear qi1
        try clear c2
        try clear p2
        try clear q2
        try clear hx2
        try clear hf2
        try clear c3
        try clear p3
        try clear q3
        try clear hx3
        try clear hf3
        try clear c4
        try clear cp
        try clear cq
        try clear c5
        try clear cr
        try clear ct
        try clear p6
        try clear c8
        try clear c10
        try clear c13
        try clear c14
        try clear p18
        try clear q18
        try clear hx18
        try clear qi18
        try clear bK
        try clear bU
        try clear cf
        try clear cj
        try clear bm
        try clear bn
        try clear hx23
        try clear hf23
        try clear bV
        try clear ck
        try clear bX
        try clear bz
        try clear aC
        try clear bY
        try clear bZ
        try clear b0
        try clear b1
        try clear bo
        try clear bp
        try clear hx34
        try clear hf34
        try clear b2
        try clear bG
        try clear aK
        try clear aM
        try clear aN
        try clear aU
        try clear aV
        try clear aW
        try clear aX
        try clear a2
        try clear a3
        try clear a4
        try clear bg
        try clear bh
        try clear bi
        try clear aQ
        try clear aR
        try clear aT
        try clear aY
        try clear aZ
        try clear a0
        try clear a1
        try clear a5
        try clear a6
        try clear a7
        try clear bj
        try clear bk
        try clear bl
        try clear aw
        try clear ax
        try clear bv
        try clear bC
        try clear p1
        try clear p18
        try clear bw
        try clear bA
        try clear p2
        try clear bm
        try clear p3
        try clear bo
        try clear p6
        try clear q1
        try clear q18
        try clear bx
        try clear bB
        try clear q2
        try clear bn
        try clear q3
        try clear bp
        obtain ⟨y, D, am, Y, rfl, HA, a9, B, x, u, L, l, c, m, d, HB⟩ := hrel
        have q := (zK u.out).1
        rw [q] at u
        (try simp only [q])
        (try simp only [q] at c)
        (try simp only [q] at m)
        (try simp only [q] at d)
        (try simp only [q] at B)
        (try simp only [q] at x)
        (try simp only [q] at L)
        (try simp only [q] at l)
        cases gk with
        | zero => exact absurd HA.out (by simp [Zag.l2])
        | succ k4 =>
         have H := HA.out
         clear HA
         simp only [Zag.l2] at H
         by_cases cg : Y < s; rotate_left
         ·rw [if_neg cg] at H
          have dn := dF cg
          clear cg
          by_cases ea : X.length < 5864062014805; rotate_left
          ·rw [if_neg ea] at H
           exact absurd H (by simp)
          rw [if_pos ea] at H
          have f5 := mA ea
          clear ea
          obtain ⟨cc, dM⟩ : ∃ y_ : List (List Int), y_ = (X ++ [am]) := ⟨_, rfl⟩
          rw [← dM] at H
          have f6 := mA dM
          clear dM
          have H' := mA H
          clear H
          have ii := aD.out
          have ij := aE.out
          have ik := ae.out
          have il := aG.out
          have e1 : wr.cell? ⟨O, 0, none⟩ = some (.int .i64 s) := bc c 0
          have e2 : wr.cell? ⟨O, 1, none⟩ = some (.slice ap A.length ag) := bc c 1
          have e3 : wr.cell? ⟨O, 2, none⟩ = some (.slice ak P.length ah) := bc c 2
          have fc := Zae c.out 0
          have fd := Zae c.out 1
          have fe := Zae c.out 2
          have im := aH.out
          have io := af.out
          have e4 : wr.cell? ⟨E, 0, none⟩ = some (.int .i64 s) := bc d 0
          have e5 : wr.cell? ⟨E, 1, none⟩ = some (.int .i64 0) := bc d 1
          have e6 : wr.cell? ⟨E, 2, none⟩ = some (.int .i64 0) := bc d 2
          have e7 : wr.cell? ⟨E, 3, none⟩ = some (T) := bc d 3
          have ff := Zae d.out 0
          have fg := Zae d.out 1
          have fh := Zae d.out 2
          have fi := Zae d.out 3
          obtain ⟨fF, fG, hj⟩ := zP L.out
          subst hj
          go_wp2_with (first | ((with_reducible refine Zbp (b := .append) (xs := #[.tmp 113, .tmp 115]) rfl ?_); at_builtin; refine Kd.S_append (Kd.slice 2 (Kd.int .i64)) (w0 := w) w.heap.size rfl (.tmp 113) (.tmp 115) 22 33 (.slice none 0 0) 24 rfl Try.underlying22 info33 rfl (by decide) (by omega) T X am [.slice fF am.length fG] (fun k_ => some k_ ≠ (.slice (some z) r.length J : Value).ownBlock ∧ some k_ ≠ (u6 : Value).ownBlock ∧ some k_ ≠ (.slice ai D.length G : Value).ownBlock) (fun k_ => some k_ = (.slice fF am.length fG : Value).ownBlock) rfl rfl ?aP (fun k_ hk_ => ((zC (ok' := fun k_ => ((fun k_ => some k_ ≠ (.slice (some z) r.length J : Value).ownBlock ∧ some k_ ≠ (u6 : Value).ownBlock ∧ some k_ ≠ (.slice ai D.length G : Value).ownBlock)) k_ ∧ some k_ ≠ (T : Value).ownBlock) (xJ (L.out) (yJ l.out) (by decide)) (fun k_ hk => ⟨⟨hk.1.1, ⟨hk.1.2.1, hk.1.2.2⟩⟩, hk.2⟩))).1 k_ hk_.symm) ?aF ?aO ?aB ?aS ?aL ?_; (case aP => exact Kd.M_row (zC (xL rfl (zC (ok' := fun k_ => ((fun k_ => some k_ ≠ (.slice (some z) r.length J : Value).ownBlock ∧ some k_ ≠ (u6 : Value).ownBlock ∧ some k_ ≠ (.slice ai D.length G : Value).ownBlock)) k_ ∧ some k_ ≠ (T : Value).ownBlock) (xJ (L.out) (yJ l.out) (by decide)) (fun k_ hk => ⟨⟨hk.1.1, ⟨hk.1.2.1, hk.1.2.2⟩⟩, hk.2⟩))) (fun _ h_ => h_))); (case aB => exact (bW)); (case aF => exact (fun k_ hk => ⟨zY (zN (rP B.out)) k_ hk, zY (zN (rP x.out)) k_ hk, zY (zN (rP u.out)) k_ hk⟩)); (case aO => exact (by (with_reducible repeat (first | apply zI | apply zJ | apply zG)); exact zF l.out (fun k_ hk => ⟨⟨hk.1, ⟨hk.2.1, hk.2.2.1⟩⟩, fun e_ => hk.2.2.2 e_⟩))); (case aS => exact (Zan (bW))); (case aL => have := f5.out; omega); intro iN i0 ho hb hg hat; rw [← f6.out] at ho; replace B := mA (yH (rP B.out) (yJ (sP l.out)) (by decide) hg); replace x := mA (yH (rP x.out) (yJ (sP l.out)) (by decide) hg); replace u := mA (yH (rP u.out) (yJ (sP l.out)) (by decide) hg); replace c := mA (Zaq (g := O) (o := .cells #[.int .i64 s, .slice ap A.length ag, .slice ak P.length ah] 95 (0, 0)) (bP c.out) hg (yU l.out c.out (by decide))); replace m := mA (Zaq (g := W) (o := .cells #[.int .i64 0, .int .i64 0, .int .i64 0, .slice none 0 0] 26 (0, 0)) (bP m.out) hg (yU l.out m.out (by decide))); replace d := mA (Zaq (g := E) (o := .cells #[.int .i64 s, .int .i64 0, .int .i64 0, T] 26 (0, 0)) (bP d.out) hg (yU l.out d.out (by decide))); replace HB := mA (hb); have eN := mA (ho); clear l L ho hb hg hat; obtain ⟨cG, cH, hl⟩ := yD eN.out; subst hl; obtain ⟨e8, e9, fa, fb⟩ := Zau d.out; obtain ⟨fj, fk, fl, fm⟩ := frz4 d.out))
          (try simp only [← j, ← q])
          go_roundg k4
          case measure => have := av.out; have := ar.out; have := bb.out; have := a9.out; omega
          case rel => exact ⟨(y), (D), (wrap64 (I + 1)), (cc), (.slice cG cc.length cH), (eW), H', ⟨by have := av.out; have := ar.out; have := bb.out; have := a9.out; omega⟩, ⟨by (try simp only [a]); (try simp only [j]); (try simp only [q]); (with_reducible repeat (first | apply zD | apply zE | apply zA)); exact zC (zH (p := ⟨E, 3, none⟩) (zX B.out d.out (by decide)) (fun _ hk => hk.2) (.slice cG cc.length cH)) (fun _ hk => ⟨hk.1.1, hk.1.2.1⟩)⟩, ⟨by (try simp only [a]); (try simp only [j]); (try simp only [q]); (with_reducible repeat (first | apply zD | apply zE | apply zA)); exact zC (zH (p := ⟨E, 3, none⟩) (zX x.out d.out (by decide)) (fun _ hk => hk.2) (.slice cG cc.length cH)) (fun _ hk => ⟨hk.1.1, hk.1.2.1⟩)⟩, ⟨by (try simp only [a]); (try simp only [j]); (try simp only [q]); (with_reducible repeat (first | apply zD | apply zE | apply zA)); exact zC (zH (p := ⟨E, 3, none⟩) (zX u.out d.out (by decide)) (fun _ hk => hk.2) (.slice cG cc.length cH)) (fun _ hk => ⟨hk.1.1, hk.1.2.1⟩)⟩, ⟨by (try simp only [a]); (try simp only [j]); (try simp only [q]); (with_reducible repeat (first | apply zI | apply zJ | apply zG)); exact zF (zB (p := ⟨E, 3, none⟩) (zR eN.out d.out (by decide)) (fun _ hk => hk.2) (.slice cG cc.length cH)) (fun _ hk => ⟨hk.1.1, ⟨hk.1.2.1, hk.1.2.2⟩⟩)⟩, ⟨by (try simp only [a]); (try simp only [j]); (try simp only [q]); (with_reducible repeat (first | refine Zac ?_ _ | refine Zab ?_ | refine Zaa ?_ _)); refine Zak ?_ ae.out _; exact bP c.out⟩, ⟨by (try simp only [a]); (try simp only [j]); (try simp only [q]); (with_reducible repeat (first | refine Zac ?_ _ | refine Zab ?_ | refine Zaa ?_ _)); refine Zak ?_ af.out _; exact bP m.out⟩, ⟨by (try simp only [a]); (try simp only [j]); (try simp only [q]); (with_reducible repeat (first | refine Zac ?_ _ | refine Zab ?_ | refine Zaa ?_ _)); refine Zao (cs := #[.int .i64 s, .int .i64 0, .int .i64 0, T]) ?_ 3 _ rfl; exact bP d.out⟩, ⟨bW⟩⟩
         rw [if_pos cg] at H
         have dn := dT cg
         clear cg
         by_cases cI : 0 ≤ I; rotate_left
         ·rw [if_neg cI] at H
          exact absurd H (by simp)
         rw [if_pos cI] at H
         have ew := dT cI
         clear cI
         by_cases cJ : I < (y.length : Int); rotate_left
         ·rw [if_neg cJ] at H
          exact absurd H (by simp)
         rw [if_pos cJ] at H
         have dp := dT cJ
         (try (have f7 := dp; simp only [a, j, q] at f7))
         clear cJ
         by_cases cK : 0 ≤ (rd y I); rotate_left
         ·rw [if_neg cK] at H
          exact absurd H (by simp)
         rw [if_pos cK] at H
         have ey := dT cK
         clear cK
         by_cases cL : (rd y I) < (A.length : Int); rotate_left
         ·rw [if_neg cL] at H
          exact absurd H (by simp)
         rw [if_pos cL] at H
         have dq := dT cL
         (try (have f8 := dq; simp only [a, j, q] at f8))
         clear cL
         by_cases cM : 0 ≤ Y; rotate_left
         ·rw [if_neg cM] at H
          exact absurd H (by simp)
         rw [if_pos cM] at H
         have ez := dT cM
         clear cM
         by_cases cN : Y < ((Zah A (rd y I)).length : Int); rotate_left
         ·rw [if_neg cN] at H
          exact absurd H (by simp)
         rw [if_pos cN] at H
         have dr := dT cN
         (try (have f9 := dr; simp only [a, j, q] at f9))
         clear cN
         replace H := bE H
         obtain ⟨ac, fH, H⟩ := H
         have hQ := mA fH
         clear fH
         have ek := mA H
         clear H
         have ip := aD.out
         have iq := aE.out
         have ir := ae.out
         have it := aG.out
         have cQ : wr.cell? ⟨O, 0, none⟩ = some (.int .i64 s) := bc c 0
         have cR : wr.cell? ⟨O, 1, none⟩ = some (.slice ap A.length ag) := bc c 1
         have cS : wr.cell? ⟨O, 2, none⟩ = some (.slice ak P.length ah) := bc c 2
         have cT := Zae c.out 0
         have cU := Zae c.out 1
         have cV := Zae c.out 2
         try go_wp2
         replace B := mA (zA B.out)
         replace x := mA (zA x.out)
         replace u := mA (zA u.out)
         replace L := mA (zA L.out)
         replace l := mA (zG l.out)
         replace c := mA (Zab c.out)
         replace m := mA (Zab m.out)
         replace d := mA (Zab d.out)
         replace HB := mA (Za3 HB.out)
         obtain ⟨iO, ao, fI⟩ := zP x.out
         (first | subst fI | (injection fI with gE hR gF; have hS := gE.symm; have hT := gF.symm; clear gE hR gF; subst hS; subst hT))
         have cy : 0 ≤ (I : Int) := ofD
         have cC : I < (y.length : Int) := ofD
         obtain ⟨ad, hm, bH⟩ := zO (zK x.out).2.2 I cy cC
         cases hm
         replace cy := eq_true cy
         replace cC := eq_true cC
         have cz : 0 ≤ ((rd y I) : Int) := ofD
         have cD : (rd y I) < (A.length : Int) := ofD
         obtain ⟨au, fJ, ec, hn, aq, cX, cY⟩ := Zca de.out (rd y I) cz cD
         have cZ := aq
         cases hn
         replace aq := (HB.out.cell (wB w aq)).trans aq
         have c0 := mA cY
         have hE := mA cX
         clear cY cX
         replace cz := eq_true cz
         replace cD := eq_true cD
         have cA : 0 ≤ (Y : Int) := ofD
         have cE : Y < ((Zah A (rd y I)).length : Int) := ofD
         obtain ⟨eO, hq, ay⟩ := zO c0.out Y cA cE
         have da := ay
         cases hq
         replace ay := (HB.out.cell (wB w ay)).trans ay
         replace cA := eq_true cA
         replace cE := eq_true cE
         refine start_ (n := 14) (S := fun w' => w'.cell? ⟨O, 0, none⟩ = some (.int .i64 s) ∧ w'.cell? ⟨O, 1, none⟩ = some (.slice (some au) A.length ag) ∧ w'.cell? ⟨O, 2, none⟩ = some (.slice ak P.length ah) ∧ w'.cell? (ad.add (I).toNat) = some (.int .i64 (rd y I)) ∧ w'.cell? (au.add ((rd y I)).toNat) = some (.slice (some eO) (Zah A (rd y I)).length ec) ∧ w'.cell? (eO.add (Y).toNat) = some (.int .i64 (rd (Zah A (rd y I)) Y))) (ds := []) #[false, false, false, false, false, false, false, false, false, false, false, false, false, false] (by kernel_rfl) rfl rfl ⟨bc c 0, bc c 1, bc c 2, bH, (cB HB cZ :), (cB HB da :)⟩ (fun hHeld => ?_); refine Zc0 Zag.tab18 Zag.bits18 (fun HT_ HW_ => ?_)
         generalize wr.drew = w53 at B x u L l c m d HB c0 bH aq ay hHeld ⊢
         refine Zav (i := 0) (N := some 57) (Zaw HT_.out (by kernel_rfl)) ?_
         refine Zav (i := 1) (N := some 58) (Zaw HT_.out (by kernel_rfl)) ?_
         refine Zav (i := 3) (N := some 60) (Zaw HT_.out (by kernel_rfl)) ?_
         refine Zav (i := 4) (N := some 61) (Zaw HT_.out (by kernel_rfl)) ?_
         refine Zav (i := 5) (N := some 62) (Zaw HT_.out (by kernel_rfl)) ?_
         refine Zav (i := 9) (N := some 66) (Zaw HT_.out (by kernel_rfl)) ?_
         refine Zbt (i := 2) (N := some 59) (Zbb HT_.out HW_.out (by kernel_rfl)) hHeld ?_
         refine Zbt (i := 6) (N := some 63) (Zbb HT_.out HW_.out (by kernel_rfl)) hHeld ?_
         refine Zav (i := 7) (N := some 64) (Zaw HT_.out (by kernel_rfl)) ?_
         refine Zbt (i := 8) (N := some 65) (Zbb HT_.out HW_.out (by kernel_rfl)) hHeld ?_
         refine Zav (i := 10) (N := some 67) (Zaw HT_.out (by kernel_rfl)) ?_
         refine Zbt (i := 11) (N := some 68) (Zbb HT_.out HW_.out (by kernel_rfl)) hHeld ?_
         refine one_ (i := 12) (N := some 69) #[true, true, true, true, true, true, true, true, true, true, true, true, true, false] rfl rfl (Zb4 HT_.out (by kernel_rfl)) (by decide) (fun K hK => ?_)
         refine goes_ Try.func103 (by kernel_rfl) rfl #[.slice (some z) r.length J, .int .i64 (rd (Zah A (rd y I)) Y)] (by rfl) rfl rfl (by (try simp only [List.map_toArray, List.map_cons, List.map_nil]); first | done | rfl | (simp only [List.length_drop, List.length_take]; rfl)) ?_
         with_reducible refine (Za8.calls _ _ r (rd (Zah A (rd y I)) Y) ac _ ?side1 ?side2 hQ.out).mono ?_
         (case side1 => exact cP ((zK B.out).2.2))
         (case side2 => exact (zK B.out).2.1)
         rintro e w' ⟨rfl, ⟨nd, rfl⟩⟩
         refine ⟨_, rfl, ?_⟩
         refine hK.out _ _ ⟨bc c 0, bc c 1, bc c 2, hHeld.2.2.2.1, (cB HB cZ :), (cB HB da :)⟩ (fun hHeld => ?_)
         clear hK K
         refine putS 69 ?_
         refine Zav (i := 13) (N := some 12) (Zaw HT_.out (by kernel_rfl)) ?_
         refine done_ (done_of HT_.out (by kernel_rfl)) ?_
         go_upto_region 19 with (fail)
         go_cut [77] (fun v77 wc => ∃ (kq : Nat) (b5 : Bool), v77 = .bool b5 ∧ Zad (Zag.j4 kq r y D I am Y ac b5 s A P s 0 0 X = some (r1, r2, r3, r4, r5)) ∧ Zad (kq ≤ k4) ∧ Zad (Kd.R (Kd.int .i64) 2 wc w.heap.size (fun k_ => some k_ ≠ ((.slice (some ad) y.length ao) : Value).ownBlock ∧ some k_ ≠ ((.slice ai D.length G) : Value).ownBlock ∧ some k_ ≠ (u10 : Value).ownBlock) (.slice (some z) r.length J) r) ∧ Zad (Kd.R (Kd.int .i64) 2 wc w.heap.size (fun k_ => some k_ ≠ ((.slice (some z) r.length J) : Value).ownBlock ∧ some k_ ≠ ((.slice ai D.length G) : Value).ownBlock ∧ some k_ ≠ (u10 : Value).ownBlock) (.slice (some ad) y.length ao) y) ∧ Zad (Kd.R (Kd.int .i64) 2 wc w.heap.size (fun k_ => some k_ ≠ ((.slice (some z) r.length J) : Value).ownBlock ∧ some k_ ≠ ((.slice (some ad) y.length ao) : Value).ownBlock ∧ some k_ ≠ (u10 : Value).ownBlock) (.slice ai D.length G) D) ∧ Zad (Kd.R (Kd.int .i64) 2 wc w.heap.size (fun k_ => some k_ ≠ ((.slice (some z) r.length J) : Value).ownBlock ∧ some k_ ≠ ((.slice (some ad) y.length ao) : Value).ownBlock ∧ some k_ ≠ ((.slice ai D.length G) : Value).ownBlock) u10 am) ∧ Zad (Kd.S (Kd.slice 2 (Kd.int .i64)) 33 wc w.heap.size (fun k_ => some k_ ≠ ((.slice (some z) r.length J) : Value).ownBlock ∧ some k_ ≠ ((.slice (some ad) y.length ao) : Value).ownBlock ∧ some k_ ≠ ((.slice ai D.length G) : Value).ownBlock ∧ some k_ ≠ (u10 : Value).ownBlock) T X) ∧ Zad (wc.heap[O]? = some (.cells #[.int .i64 s, (.slice (some au) A.length ag), (.slice ak P.length ah)] 95 (0, 0))) ∧ Zad (wc.heap[W]? = some (.cells #[.int .i64 0, .int .i64 0, .int .i64 0, (.slice none 0 0)] 26 (0, 0))) ∧ Zad (wc.heap[E]? = some (.cells #[.int .i64 s, .int .i64 0, .int .i64 0, T] 26 (0, 0))) ∧ Zad (Below w.heap.size w wc))
         case first =>
          have H := ek.out
          clear ek
          by_cases cO : 0 < (r.length : Int); rotate_left
          ·rw [if_neg cO] at H
           exact absurd H (by simp)
          rw [if_pos cO] at H
          have b3 := dT cO
          (try (have ga := b3; simp only [a, j, q] at ga))
          have dt : decide (0 < r.length) = true := decide_eq_true (by omega)
          (try (have gb := dt; simp only [a, j, q] at gb))
          clear cO
          (first | rw [b3] | (simp only [i64_w, i32_w]; rw [b3]) | skip)
          by_cases ch : (rd r 0) < 0
          ·rw [if_pos ch] at H
           have du := dT ch
           clear ch
           have H' := mA H
           clear H
           have br : 0 ≤ (0 : Int) := (by omega)
           have bs : 0 < (r.length : Int) := ofD
           obtain ⟨dN, el, az⟩ := zO (zK B.out).2.2 0 br bs
           obtain rfl : z = dN := (by injection el)
           have gc : (0 < r.length) = True := eq_true (by omega)
           (try rw [show ((0 : Int)).toNat = 0 from rfl] at az)
           (try rw [Addr.add_zero'] at az)
           replace br := eq_true br
           replace bs := eq_true bs
           go_wp2
           go_meet
           case rel => exact ⟨_, (true), (eW), H', ⟨by have := av.out; have := ar.out; have := bb.out; have := a9.out; first | omega | exact Nat.le_refl _⟩, ⟨by (try simp only [a]); (try simp only [j]); (try simp only [q]); exact rP B.out⟩, ⟨by (try simp only [a]); (try simp only [j]); (try simp only [q]); exact rP x.out⟩, ⟨by (try simp only [a]); (try simp only [j]); (try simp only [q]); exact rP u.out⟩, ⟨by (try simp only [a]); (try simp only [j]); (try simp only [q]); exact rP L.out⟩, ⟨by (try simp only [a]); (try simp only [j]); (try simp only [q]); exact sP l.out⟩, ⟨by (try simp only [a]); (try simp only [j]); (try simp only [q]); exact bP c.out⟩, ⟨by (try simp only [a]); (try simp only [j]); (try simp only [q]); exact bP m.out⟩, ⟨by (try simp only [a]); (try simp only [j]); (try simp only [q]); exact bP d.out⟩, ⟨bW⟩⟩
          rw [if_neg ch] at H
          have du := dF ch
          clear ch
          have H' := mA H
          clear H
          have br : 0 ≤ (0 : Int) := (by omega)
          have bs : 0 < (r.length : Int) := ofD
          obtain ⟨dN, el, az⟩ := zO (zK B.out).2.2 0 br bs
          obtain rfl : z = dN := (by injection el)
          have gc : (0 < r.length) = True := eq_true (by omega)
          (try rw [show ((0 : Int)).toNat = 0 from rfl] at az)
          (try rw [Addr.add_zero'] at az)
          replace br := eq_true br
          replace bs := eq_true bs
          go_wp2
          go_meet
          case rel => exact ⟨_, (decide (ac < 0)), (eW), H', ⟨by have := av.out; have := ar.out; have := bb.out; have := a9.out; first | omega | exact Nat.le_refl _⟩, ⟨by (try simp only [a]); (try simp only [j]); (try simp only [q]); exact rP B.out⟩, ⟨by (try simp only [a]); (try simp only [j]); (try simp only [q]); exact rP x.out⟩, ⟨by (try simp only [a]); (try simp only [j]); (try simp only [q]); exact rP u.out⟩, ⟨by (try simp only [a]); (try simp only [j]); (try simp only [q]); exact rP L.out⟩, ⟨by (try simp only [a]); (try simp only [j]); (try simp only [q]); exact sP l.out⟩, ⟨by (try simp only [a]); (try simp only [j]); (try simp only [q]); exact bP c.out⟩, ⟨by (try simp only [a]); (try simp only [j]); (try simp only [q]); exact bP m.out⟩, ⟨by (try simp only [a]); (try simp only [j]); (try simp only [q]); exact bP d.out⟩, ⟨bW⟩⟩
         case rest =>
          clear ek
          try clear c1
          try clear p1
          try clear q1
          try clear hx1
          try clear qi1
          try clear c2
          try clear p2
          try clear q2
          try clear hx2
          try clear hf2
          try clear c3
          try clear p3
          try clear q3
          try clear hx3
          try clear hf3
          try clear c4
          try clear cp
          try clear cq
          try clear c5
          try clear cr
          try clear ct
          try clear p6
          try clear c8
          try clear c10
          try clear c13
          try clear c14
          try clear p18
          try clear q18
          try clear hx18
          try clear qi18
          try clear c19
          try clear p19
          try clear q19
          try clear hx19
          try clear qi19
          try clear bK
          try clear bU
          try clear cf
          try clear cj
          try clear bm
          try clear bn
          try clear hx23
          try clear hf23
          try clear bV
          try clear ck
          try clear bX
          try clear bz
          try clear aC
          try clear bY
          try clear bZ
          try clear b0
          try clear b1
          try clear bo
          try clear bp
          try clear hx34
          try clear hf34
          try clear b2
          try clear bG
          try clear cg
          try clear dn
          try clear cI
          try clear ew
          try clear cJ
          try clear dp
          try clear cK
          try clear ey
          try clear cL
          try clear dq
          try clear cM
          try clear ez
          try clear cN
          try clear dr
          try clear c50
          try clear c51
          try clear cO
          try clear b3
          try clear dt
          try clear ch
          try clear du
          try clear aK
          try clear aM
          try clear aN
          try clear aU
          try clear aV
          try clear aW
          try clear aX
          try clear a2
          try clear a3
          try clear a4
          try clear cQ
          try clear cR
          try clear cS
          try clear bg
          try clear bh
          try clear bi
          try clear aQ
          try clear aR
          try clear aT
          try clear aY
          try clear aZ
          try clear a0
          try clear a1
          try clear a5
          try clear a6
          try clear a7
          try clear cT
          try clear cU
          try clear cV
          try clear bj
          try clear bk
          try clear bl
          try clear aw
          try clear ax
          try clear bH
          try clear aq
          try clear ay
          try clear az
          try clear bv
          try clear bC
          try clear p1
          try clear p18
          try clear bw
          try clear bA
          try clear cy
          try clear cz
          try clear cA
          try clear br
          try clear p2
          try clear bm
          try clear p3
          try clear bo
          try clear p6
          try clear q1
          try clear q18
          try clear bx
          try clear bB
          try clear cC
          try clear cD
          try clear cE
          try clear bs
          try clear q2
          try clear bn
          try clear q3
          try clear bp
          obtain ⟨kq, b5, rfl, HA, cd, B, x, u, L, l, c, m, d, HB⟩ := hcut
          cases kq with
          | zero => exact absurd HA.out (by simp [Zag.j4])
          | succ em =>
           have H := HA.out
           clear HA
           simp only [Zag.j4] at H
           by_cases dV : b5 = true
           ·subst dV
            rw [if_pos rfl] at H
            by_cases dW : am.length < 17592186044416; rotate_left
            ·rw [if_neg dW] at H
             exact absurd H (by simp)
            rw [if_pos dW] at H
            have gf := mA dW
            clear dW
            obtain ⟨hs, dO⟩ : ∃ y_ : List Int, y_ = (am ++ [(-1)]) := ⟨_, rfl⟩
            rw [← dO] at H
            have gg := mA dO
            clear dO
            have H' := mA H
            clear H
            go_wp2_with (first | ((with_reducible refine Zbp (b := .append) (xs := #[.tmp 78, .tmp 79]) rfl ?_); at_builtin; refine xN (Kd.int .i64) (w0 := w) w.heap.size rfl (.tmp 78) (.tmp 79) 33 2 (.int .i64 0) 8 rfl Try.underlying33 info2 rfl (by decide) (by omega) u10 am (-1) [.int .i64 (-1)] (fun k_ => some k_ ≠ (.slice (some z) r.length J : Value).ownBlock ∧ some k_ ≠ (.slice (some ad) y.length ao : Value).ownBlock ∧ some k_ ≠ (.slice ai D.length G : Value).ownBlock) (fun _ => False) rfl rfl ?aP (fun _ hk => hk.elim) ?aF ?aO ?aB ?aS ?aL ?_; (case aP => exact rfl); (case aB => exact (bW)); (case aF => exact (fun k_ hk => ⟨zY (zN (rP B.out)) k_ hk, zY (zN (rP x.out)) k_ hk, zY (zN (rP u.out)) k_ hk⟩)); (case aO => exact (rP L.out)); (case aS => exact (Zan (bW))); (case aL => have := gf.out; omega); intro iP i1 ho hb hg hat; rw [← gg.out] at ho; replace B := mA (zU (ok := (fun k_ => some k_ ≠ (.slice (some ad) y.length ao : Value).ownBlock ∧ some k_ ≠ (.slice ai D.length G : Value).ownBlock)) (by (with_reducible repeat (first | apply zD | apply zE | apply zA)); exact zC B.out (fun _ hk => ⟨⟨hk.1, hk.2.1⟩, hk.2.2⟩)) hg hat); replace x := mA (zU (ok := (fun k_ => some k_ ≠ (.slice (some z) r.length J : Value).ownBlock ∧ some k_ ≠ (.slice ai D.length G : Value).ownBlock)) (by (with_reducible repeat (first | apply zD | apply zE | apply zA)); exact zC x.out (fun _ hk => ⟨⟨hk.1, hk.2.1⟩, hk.2.2⟩)) hg hat); replace u := mA (zU (ok := (fun k_ => some k_ ≠ (.slice (some z) r.length J : Value).ownBlock ∧ some k_ ≠ (.slice (some ad) y.length ao : Value).ownBlock)) (by (with_reducible repeat (first | apply zD | apply zE | apply zA)); exact zC u.out (fun _ hk => ⟨⟨hk.1, hk.2.1⟩, hk.2.2⟩)) hg hat); replace l := mA (xD (ok := (fun k_ => some k_ ≠ (.slice (some z) r.length J : Value).ownBlock ∧ some k_ ≠ (.slice (some ad) y.length ao : Value).ownBlock ∧ some k_ ≠ (.slice ai D.length G : Value).ownBlock)) (by (with_reducible repeat (first | apply zI | apply zJ | apply zG)); exact zF l.out (fun _ hk => ⟨⟨hk.1, ⟨hk.2.1, hk.2.2.1⟩⟩, hk.2.2.2⟩)) hg hat); replace c := mA (Zaq (g := O) (o := .cells #[.int .i64 s, .slice (some au) A.length ag, .slice ak P.length ah] 95 (0, 0)) (bP c.out) hg (zQ L.out c.out (by decide))); replace m := mA (Zaq (g := W) (o := .cells #[.int .i64 0, .int .i64 0, .int .i64 0, .slice none 0 0] 26 (0, 0)) (bP m.out) hg (zQ L.out m.out (by decide))); replace d := mA (Zaq (g := E) (o := .cells #[.int .i64 s, .int .i64 0, .int .i64 0, T] 26 (0, 0)) (bP d.out) hg (zQ L.out d.out (by decide))); replace HB := mA (hb); have gh := mA (ho); clear L ho hb hg hat))
            (try simp only [← q])
            go_roundg em
            case measure => have := av.out; have := ar.out; have := bb.out; have := a9.out; have := cd.out; omega
            case rel => exact ⟨(y), (D), (hs), (wrap64 (Y + 1)), (eW), H', ⟨by have := av.out; have := ar.out; have := bb.out; have := a9.out; have := cd.out; omega⟩, ⟨by (try simp only [a]); (try simp only [j]); (try simp only [q]); (with_reducible repeat (first | apply zD | apply zE | apply zA)); exact zC B.out (fun _ hk => ⟨hk.1.1, ⟨hk.1.2, hk.2⟩⟩)⟩, ⟨by (try simp only [a]); (try simp only [j]); (try simp only [q]); (with_reducible repeat (first | apply zD | apply zE | apply zA)); exact zC x.out (fun _ hk => ⟨hk.1.1, ⟨hk.1.2, hk.2⟩⟩)⟩, ⟨by (try simp only [a]); (try simp only [j]); (try simp only [q]); (with_reducible repeat (first | apply zD | apply zE | apply zA)); exact zC u.out (fun _ hk => ⟨hk.1.1, ⟨hk.1.2, hk.2⟩⟩)⟩, ⟨by (try simp only [a]); (try simp only [j]); (try simp only [q]); exact rP gh.out⟩, ⟨by (try simp only [a]); (try simp only [j]); (try simp only [q]); (with_reducible repeat (first | apply zI | apply zJ | apply zG)); exact zF l.out (fun _ hk => ⟨hk.1.1, ⟨hk.1.2.1, ⟨hk.1.2.2, hk.2⟩⟩⟩)⟩, ⟨by (try simp only [a]); (try simp only [j]); (try simp only [q]); exact bP c.out⟩, ⟨by (try simp only [a]); (try simp only [j]); (try simp only [q]); exact bP m.out⟩, ⟨by (try simp only [a]); (try simp only [j]); (try simp only [q]); exact bP d.out⟩, ⟨bW⟩⟩
           replace dV := Bool.eq_false_iff.mpr dV
           subst dV
           rw [iF] at H
           by_cases dX : 0 ≤ ac; rotate_left
           ·rw [if_neg dX] at H
            exact absurd H (by simp)
           rw [if_pos dX] at H
           have fU := dT dX
           clear dX
           by_cases dY : ac < (D.length : Int); rotate_left
           ·rw [if_neg dY] at H
            exact absurd H (by simp)
           rw [if_pos dY] at H
           have eA := dT dY
           (try (have gi := eA; simp only [a, j, q] at gi))
           clear dY
           by_cases cx : (rd D ac) < 0; rotate_left
           ·rw [if_neg cx] at H
            have eB := dF cx
            clear cx
            by_cases d9 : am.length < 17592186044416; rotate_left
            ·rw [if_neg d9] at H
             exact absurd H (by simp)
            rw [if_pos d9] at H
            have gj := mA d9
            clear d9
            obtain ⟨ht, dP⟩ : ∃ y_ : List Int, y_ = (am ++ [rd D ac]) := ⟨_, rfl⟩
            rw [← dP] at H
            have gl := mA dP
            clear dP
            have H' := mA H
            clear H
            have bD : 0 ≤ (ac : Int) := ofD
            have bF : ac < (D.length : Int) := ofD
            obtain ⟨bJ, en, b9⟩ := zO (zK u.out).2.2 ac bD bF
            cases en
            replace bD := eq_true bD
            replace bF := eq_true bF
            have dz : 0 ≤ (ac : Int) := ofD
            have dE : ac < (D.length : Int) := ofD
            obtain ⟨gm, hu, fn⟩ := zO (zK u.out).2.2 ac dz dE
            obtain rfl : bJ = gm := (by injection hu)
            replace dz := eq_true dz
            replace dE := eq_true dE
            go_wp2_with (first | ((with_reducible refine Zbp (b := .append) (xs := #[.tmp 105, .tmp 110]) rfl ?_); at_builtin; refine xN (Kd.int .i64) (w0 := w) w.heap.size rfl (.tmp 105) (.tmp 110) 33 2 (.int .i64 0) 8 rfl Try.underlying33 info2 rfl (by decide) (by omega) u10 am (rd D ac) [.int .i64 (rd D ac)] (fun k_ => some k_ ≠ (.slice (some z) r.length J : Value).ownBlock ∧ some k_ ≠ (.slice (some ad) y.length ao : Value).ownBlock ∧ some k_ ≠ (.slice (some bJ) D.length G : Value).ownBlock) (fun _ => False) rfl rfl ?aP (fun _ hk => hk.elim) ?aF ?aO ?aB ?aS ?aL ?_; (case aP => exact rfl); (case aB => exact (bW)); (case aF => exact (fun k_ hk => ⟨zY (zN (rP B.out)) k_ hk, zY (zN (rP x.out)) k_ hk, zY (zN (rP u.out)) k_ hk⟩)); (case aO => exact (rP L.out)); (case aS => exact (Zan (bW))); (case aL => have := gj.out; omega); intro iQ i2 ho hb hg hat; rw [← gl.out] at ho; replace B := mA (zU (ok := (fun k_ => some k_ ≠ (.slice (some ad) y.length ao : Value).ownBlock ∧ some k_ ≠ (.slice (some bJ) D.length G : Value).ownBlock)) (by (with_reducible repeat (first | apply zD | apply zE | apply zA)); exact zC B.out (fun _ hk => ⟨⟨hk.1, hk.2.1⟩, hk.2.2⟩)) hg hat); replace x := mA (zU (ok := (fun k_ => some k_ ≠ (.slice (some z) r.length J : Value).ownBlock ∧ some k_ ≠ (.slice (some bJ) D.length G : Value).ownBlock)) (by (with_reducible repeat (first | apply zD | apply zE | apply zA)); exact zC x.out (fun _ hk => ⟨⟨hk.1, hk.2.1⟩, hk.2.2⟩)) hg hat); replace u := mA (zU (ok := (fun k_ => some k_ ≠ (.slice (some z) r.length J : Value).ownBlock ∧ some k_ ≠ (.slice (some ad) y.length ao : Value).ownBlock)) (by (with_reducible repeat (first | apply zD | apply zE | apply zA)); exact zC u.out (fun _ hk => ⟨⟨hk.1, hk.2.1⟩, hk.2.2⟩)) hg hat); replace l := mA (xD (ok := (fun k_ => some k_ ≠ (.slice (some z) r.length J : Value).ownBlock ∧ some k_ ≠ (.slice (some ad) y.length ao : Value).ownBlock ∧ some k_ ≠ (.slice (some bJ) D.length G : Value).ownBlock)) (by (with_reducible repeat (first | apply zI | apply zJ | apply zG)); exact zF l.out (fun _ hk => ⟨⟨hk.1, ⟨hk.2.1, hk.2.2.1⟩⟩, hk.2.2.2⟩)) hg hat); replace c := mA (Zaq (g := O) (o := .cells #[.int .i64 s, .slice (some au) A.length ag, .slice ak P.length ah] 95 (0, 0)) (bP c.out) hg (zQ L.out c.out (by decide))); replace m := mA (Zaq (g := W) (o := .cells #[.int .i64 0, .int .i64 0, .int .i64 0, .slice none 0 0] 26 (0, 0)) (bP m.out) hg (zQ L.out m.out (by decide))); replace d := mA (Zaq (g := E) (o := .cells #[.int .i64 s, .int .i64 0, .int .i64 0, T] 26 (0, 0)) (bP d.out) hg (zQ L.out d.out (by decide))); replace HB := mA (hb); have gn := mA (ho); clear L ho hb hg hat))
            (try simp only [← q])
            go_roundg em
            case measure => have := av.out; have := ar.out; have := bb.out; have := a9.out; have := cd.out; omega
            case rel => exact ⟨(y), (D), (ht), (wrap64 (Y + 1)), (eW), H', ⟨by have := av.out; have := ar.out; have := bb.out; have := a9.out; have := cd.out; omega⟩, ⟨by (try simp only [a]); (try simp only [j]); (try simp only [q]); (with_reducible repeat (first | apply zD | apply zE | apply zA)); exact zC B.out (fun _ hk => ⟨hk.1.1, ⟨hk.1.2, hk.2⟩⟩)⟩, ⟨by (try simp only [a]); (try simp only [j]); (try simp only [q]); (with_reducible repeat (first | apply zD | apply zE | apply zA)); exact zC x.out (fun _ hk => ⟨hk.1.1, ⟨hk.1.2, hk.2⟩⟩)⟩, ⟨by (try simp only [a]); (try simp only [j]); (try simp only [q]); (with_reducible repeat (first | apply zD | apply zE | apply zA)); exact zC u.out (fun _ hk => ⟨hk.1.1, ⟨hk.1.2, hk.2⟩⟩)⟩, ⟨by (try simp only [a]); (try simp only [j]); (try simp only [q]); exact rP gn.out⟩, ⟨by (try simp only [a]); (try simp only [j]); (try simp only [q]); (with_reducible repeat (first | apply zI | apply zJ | apply zG)); exact zF l.out (fun _ hk => ⟨hk.1.1, ⟨hk.1.2.1, ⟨hk.1.2.2, hk.2⟩⟩⟩)⟩, ⟨by (try simp only [a]); (try simp only [j]); (try simp only [q]); exact bP c.out⟩, ⟨by (try simp only [a]); (try simp only [j]); (try simp only [q]); exact bP m.out⟩, ⟨by (try simp only [a]); (try simp only [j]); (try simp only [q]); exact bP d.out⟩, ⟨bW⟩⟩
           rw [if_pos cx] at H
           have eB := dT cx
           clear cx
           obtain ⟨ce, dQ⟩ : ∃ y_ : List Int, y_ = (D.set (ac : Int).toNat (y.length : Int)) := ⟨_, rfl⟩
           replace H := bsm dQ H
           have eP := mA dQ
           clear dQ
           by_cases d1 : 0 ≤ I; rotate_left
           ·rw [if_neg d1] at H
            exact absurd H (by simp)
           rw [if_pos d1] at H
           have fV := dT d1
           clear d1
           by_cases d2 : I < (y.length : Int); rotate_left
           ·rw [if_neg d2] at H
            exact absurd H (by simp)
           rw [if_pos d2] at H
           have eC := dT d2
           (try (have gp := eC; simp only [a, j, q] at gp))
           clear d2
           by_cases d3 : 0 ≤ (rd y I); rotate_left
           ·rw [if_neg d3] at H
            exact absurd H (by simp)
           rw [if_pos d3] at H
           have fW := dT d3
           clear d3
           by_cases d4 : (rd y I) < (A.length : Int); rotate_left
           ·rw [if_neg d4] at H
            exact absurd H (by simp)
           rw [if_pos d4] at H
           have eD := dT d4
           (try (have gq := eD; simp only [a, j, q] at gq))
           clear d4
           by_cases d5 : 0 ≤ Y; rotate_left
           ·rw [if_neg d5] at H
            exact absurd H (by simp)
           rw [if_pos d5] at H
           have fX := dT d5
           clear d5
           by_cases d6 : Y < ((Zah A (rd y I)).length : Int); rotate_left
           ·rw [if_neg d6] at H
            exact absurd H (by simp)
           rw [if_pos d6] at H
           have eE := dT d6
           (try (have gr := eE; simp only [a, j, q] at gr))
           clear d6
           by_cases d7 : y.length < 17592186044416; rotate_left
           ·rw [if_neg d7] at H
            exact absurd H (by simp)
           rw [if_pos d7] at H
           have gs := mA d7
           clear d7
           obtain ⟨hv, dR⟩ : ∃ y_ : List Int, y_ = (y ++ [rd (Zah A (rd y I)) Y]) := ⟨_, rfl⟩
           rw [← dR] at H
           have gu := mA dR
           clear dR
           by_cases d8 : am.length < 17592186044416; rotate_left
           ·rw [if_neg d8] at H
            exact absurd H (by simp)
           rw [if_pos d8] at H
           have gv := mA d8
           clear d8
           obtain ⟨hx, dS⟩ : ∃ y_ : List Int, y_ = (am ++ [rd ce ac]) := ⟨_, rfl⟩
           rw [← dS] at H
           have gw := mA dS
           clear dS
           have H' := mA H
           clear H
           have bD : 0 ≤ (ac : Int) := ofD
           have bF : ac < (D.length : Int) := ofD
           obtain ⟨bJ, en, b9⟩ := zO (zK u.out).2.2 ac bD bF
           cases en
           replace bD := eq_true bD
           replace bF := eq_true bF
           have dZ : 0 ≤ (ac : Int) := ofD
           have d0 : (ac : Int) < ((D.length : Int) : Int) := ofD
           obtain ⟨an, iR, fK, fL, hy, iS, fM⟩ := yM u.out (by omega)
           (first | cases fK | (injection fK with ea_ en_ ec_; (first | subst ea_ | (injection ea_ with ea_; subst ea_)); subst ec_; clear en_))
           have hz := mA fL
           have iT := mA fM
           clear fL hy fM
           (first | simp only [Zcg] at b9 | skip)
           obtain ⟨fD, hU⟩ := yF 0 u.out (ac : Int) dZ d0
           replace dZ := eq_true dZ
           replace d0 := eq_true d0
           have eo := yG u.out (ac : Int) (y.length : Int)
           try go_wp2_with (first | ((with_reducible refine Zbl (t := 2) (p := 90) rfl ?_); refine Zc2 (t := 2) (p := 90) (w1 := (wc.setCell ⟨an, (ac : Int).toNat, none⟩ (.int .i64 (y.length : Int)))) ?_; intro eQ hw; have hg : wc.grownBy eQ (some an) := (by rw [hw]; exact eo.2); have hp_ : Kd.R (Kd.int .i64) 2 eQ w.heap.size (fun k_ => some k_ ≠ (.slice (some z) r.length J : Value).ownBlock ∧ some k_ ≠ (.slice (some ad) y.length ao : Value).ownBlock ∧ some k_ ≠ (u10 : Value).ownBlock) (.slice (some ⟨an, 0, none⟩) D.length G) ce := (by rw [hw, eP.out]; exact eo.1); clear eo; replace B := mA (zU (v := (.slice (some ⟨an, 0, none⟩) D.length G)) (v1 := (.slice (some ⟨an, 0, none⟩) D.length G)) (ok := (fun k_ => some k_ ≠ (.slice (some ad) y.length ao : Value).ownBlock ∧ some k_ ≠ (u10 : Value).ownBlock)) (by (with_reducible repeat (first | apply zD | apply zE | apply zA)); exact zC B.out (fun _ hk => ⟨⟨hk.1, hk.2.2⟩, hk.2.1⟩)) hg (.inl rfl)); replace x := mA (zU (v := (.slice (some ⟨an, 0, none⟩) D.length G)) (v1 := (.slice (some ⟨an, 0, none⟩) D.length G)) (ok := (fun k_ => some k_ ≠ (.slice (some z) r.length J : Value).ownBlock ∧ some k_ ≠ (u10 : Value).ownBlock)) (by (with_reducible repeat (first | apply zD | apply zE | apply zA)); exact zC x.out (fun _ hk => ⟨⟨hk.1, hk.2.2⟩, hk.2.1⟩)) hg (.inl rfl)); replace L := mA (zU (v := (.slice (some ⟨an, 0, none⟩) D.length G)) (v1 := (.slice (some ⟨an, 0, none⟩) D.length G)) (ok := (fun k_ => some k_ ≠ (.slice (some z) r.length J : Value).ownBlock ∧ some k_ ≠ (.slice (some ad) y.length ao : Value).ownBlock)) (by (with_reducible repeat (first | apply zD | apply zE | apply zA)); exact zC L.out (fun _ hk => ⟨⟨hk.1, hk.2.1⟩, hk.2.2⟩)) hg (.inl rfl)); replace l := mA (xD (v := (.slice (some ⟨an, 0, none⟩) D.length G)) (v1 := (.slice (some ⟨an, 0, none⟩) D.length G)) (ok := (fun k_ => some k_ ≠ (.slice (some z) r.length J : Value).ownBlock ∧ some k_ ≠ (.slice (some ad) y.length ao : Value).ownBlock ∧ some k_ ≠ (u10 : Value).ownBlock)) (by (with_reducible repeat (first | apply zI | apply zJ | apply zG)); exact zF l.out (fun _ hk => ⟨⟨hk.1, ⟨hk.2.1, hk.2.2.2⟩⟩, hk.2.2.1⟩)) hg (.inl rfl)); replace c := mA (Zaq (g := O) (o := .cells #[.int .i64 s, .slice (some au) A.length ag, .slice ak P.length ah] 95 (0, 0)) (bP c.out) hg (zQ u.out c.out (by decide))); replace m := mA (Zaq (g := W) (o := .cells #[.int .i64 0, .int .i64 0, .int .i64 0, .slice none 0 0] 26 (0, 0)) (bP m.out) hg (zQ u.out m.out (by decide))); replace d := mA (Zaq (g := E) (o := .cells #[.int .i64 s, .int .i64 0, .int .i64 0, T] 26 (0, 0)) (bP d.out) hg (zQ u.out d.out (by decide))); replace u := mA (hp_); replace HB := mA ((by rw [hw]; exact Za7 (HB.out) hz.out : Below w.heap.size w eQ)); clear hg hw hp_))
           replace B := mA (zA B.out)
           replace x := mA (zA x.out)
           replace u := mA (zA u.out)
           replace L := mA (zA L.out)
           replace l := mA (zG l.out)
           replace c := mA (Zab c.out)
           replace m := mA (Zab m.out)
           replace d := mA (Zab d.out)
           replace HB := mA (Za3 HB.out)
           have dv : 0 ≤ (I : Int) := ofD
           have dA : I < (y.length : Int) := ofD
           obtain ⟨gx, hA, ca⟩ := zO (zK x.out).2.2 I dv dA
           obtain rfl : ad = gx := (by injection hA)
           replace dv := eq_true dv
           replace dA := eq_true dA
           have dw : 0 ≤ ((rd y I) : Int) := ofD
           have dB : (rd y I) < (A.length : Int) := ofD
           obtain ⟨gy, fN, ed, hB, aA, db, dc⟩ := Zca de.out (rd y I) dw dB
           have fo := aA
           obtain rfl : au = gy := (by injection hB)
           (try (have hV : fN = fJ ∧ ed = ec := (by have e_ := aA.symm.trans aq; simpa using e_)))
           replace aA := (HB.out.cell (wB w aA)).trans aA
           have dd := mA dc
           have hF := mA db
           clear dc db
           replace dw := eq_true dw
           replace dB := eq_true dB
           have dx : 0 ≤ (Y : Int) := ofD
           have dC : Y < ((Zah A (rd y I)).length : Int) := ofD
           obtain ⟨eR, hC, a8⟩ := zO dd.out Y dx dC
           have fp := a8
           cases hC
           replace a8 := (HB.out.cell (wB w a8)).trans a8
           replace dx := eq_true dx
           replace dC := eq_true dC
           refine start_ (n := 15) (S := fun w' => w'.cell? ⟨O, 0, none⟩ = some (.int .i64 s) ∧ w'.cell? ⟨O, 1, none⟩ = some (.slice (some au) A.length ag) ∧ w'.cell? ⟨O, 2, none⟩ = some (.slice ak P.length ah) ∧ w'.cell? (ad.add (I).toNat) = some (.int .i64 (rd y I)) ∧ w'.cell? (au.add ((rd y I)).toNat) = some (.slice (some eR) (Zah A (rd y I)).length ed) ∧ w'.cell? (eR.add (Y).toNat) = some (.int .i64 (rd (Zah A (rd y I)) Y))) (ds := [12, 13]) #[false, false, false, false, false, false, false, false, false, false, false, false, false, false, false] (by kernel_rfl) rfl rfl ⟨bc c 0, bc c 1, bc c 2, ca, (cB HB fo :), (cB HB fp :)⟩ (fun hHeld => ?_); refine Zc0 Zag.tab23 Zag.bits23 (fun HT_ HW_ => ?_)
           generalize eQ.drew = w74 at B x u L l c m d HB dd ca aA a8 hHeld ⊢
           refine Zav (i := 0) (N := some 91) (Zaw HT_.out (by kernel_rfl)) ?_
           refine Zav (i := 1) (N := some 92) (Zaw HT_.out (by kernel_rfl)) ?_
           refine Zav (i := 3) (N := some 94) (Zaw HT_.out (by kernel_rfl)) ?_
           refine Zav (i := 4) (N := some 95) (Zaw HT_.out (by kernel_rfl)) ?_
           refine Zav (i := 5) (N := some 96) (Zaw HT_.out (by kernel_rfl)) ?_
           refine Zav (i := 9) (N := some 100) (Zaw HT_.out (by kernel_rfl)) ?_
           refine Zbt (i := 2) (N := some 93) (Zbb HT_.out HW_.out (by kernel_rfl)) hHeld ?_
           refine Zbt (i := 6) (N := some 97) (Zbb HT_.out HW_.out (by kernel_rfl)) hHeld ?_
           refine Zav (i := 7) (N := some 98) (Zaw HT_.out (by kernel_rfl)) ?_
           refine Zbt (i := 8) (N := some 99) (Zbb HT_.out HW_.out (by kernel_rfl)) hHeld ?_
           refine Zav (i := 10) (N := some 101) (Zaw HT_.out (by kernel_rfl)) ?_
           refine Zbt (i := 11) (N := some 102) (Zbb HT_.out HW_.out (by kernel_rfl)) hHeld ?_
           refine last_ (i := 12) (N := some 103) #[true, true, true, true, true, true, true, true, true, true, true, true, true, false, false] rfl rfl (Zb4 HT_.out (by kernel_rfl)) (by decide) (fun K hK => ?_)
           refine value_ (w1 := ?_) (v := ?_) (by rfl) rfl ?_ ?_
           rotate_left 2
           ·go_simp
            constructor
            ·rfl
            ·rfl
           refine hK.out _ _ ?_
           clear hK K
           refine putS 103 ?_
           refine last_ (i := 13) (N := some 104) #[true, true, true, true, true, true, true, true, true, true, true, true, true, true, false] rfl rfl (Zb4 HT_.out (by kernel_rfl)) (by decide) (fun K hK => ?_)
           refine xT (Kd.int .i64) (w0 := w) w.heap.size (by rfl) (.tmp 91) (.tmp 103) 33 2 (.int .i64 0) 8 rfl Try.underlying33 info2 rfl (by decide) (by omega) (.slice (some ad) y.length ao) y (rd (Zah A (rd y I)) Y) [.int .i64 (rd (Zah A (rd y I)) Y)] (fun k_ => some k_ ≠ (.slice (some z) r.length J : Value).ownBlock ∧ some k_ ≠ (.slice (some ⟨an, 0, none⟩) D.length G : Value).ownBlock ∧ some k_ ≠ (u10 : Value).ownBlock) (fun _ => False) rfl rfl ?aP (fun _ hk => hk.elim) ?aF ?aO ?aB ?aS ?aL ?_
           (case aP => exact rfl)
           (case aB => exact (bW))
           (case aF => exact (fun k_ hk => ⟨zY (zN (rP B.out)) k_ hk, zY (zN (rP u.out)) k_ hk, zY (zN (rP L.out)) k_ hk⟩))
           (case aO => exact (by (with_reducible repeat (first | apply zD | apply zE | apply zA)); exact zC x.out (fun _ hk => ⟨hk.1.1, ⟨hk.2, hk.1.2⟩⟩)))
           (case aS => exact (Zan (bW)))
           (case aL => have := gs.out; omega)
           intro dU i3 ho hb hg hat
           rw [← gu.out] at ho
           replace B := mA (zU (ok := (fun k_ => some k_ ≠ (.slice (some ⟨an, 0, none⟩) D.length G : Value).ownBlock ∧ some k_ ≠ (u10 : Value).ownBlock)) (by (with_reducible repeat (first | apply zD | apply zE | apply zA)); exact zC B.out (fun _ hk => ⟨⟨hk.2, hk.1.2⟩, hk.1.1⟩)) hg hat)
           replace u := mA (zU (ok := (fun k_ => some k_ ≠ (.slice (some z) r.length J : Value).ownBlock ∧ some k_ ≠ (u10 : Value).ownBlock)) (by (with_reducible repeat (first | apply zD | apply zE | apply zA)); exact zC u.out (fun _ hk => ⟨⟨hk.1, hk.2.2⟩, hk.2.1⟩)) hg hat)
           replace L := mA (zU (ok := (fun k_ => some k_ ≠ (.slice (some z) r.length J : Value).ownBlock ∧ some k_ ≠ (.slice (some ⟨an, 0, none⟩) D.length G : Value).ownBlock)) (by (with_reducible repeat (first | apply zD | apply zE | apply zA)); exact zC L.out (fun _ hk => ⟨⟨hk.1.1, hk.2⟩, hk.1.2⟩)) hg hat)
           replace l := mA (xD (ok := (fun k_ => some k_ ≠ (.slice (some z) r.length J : Value).ownBlock ∧ some k_ ≠ (.slice (some ⟨an, 0, none⟩) D.length G : Value).ownBlock ∧ some k_ ≠ (u10 : Value).ownBlock)) (by (with_reducible repeat (first | apply zI | apply zJ | apply zG)); exact zF l.out (fun _ hk => ⟨⟨hk.1.1, ⟨hk.2, hk.1.2.2⟩⟩, hk.1.2.1⟩)) hg hat)
           replace c := mA (Zaq (g := O) (o := .cells #[.int .i64 s, .slice (some au) A.length ag, .slice ak P.length ah] 95 (0, 0)) (bP c.out) hg (zQ x.out c.out (by decide)))
           replace m := mA (Zaq (g := W) (o := .cells #[.int .i64 0, .int .i64 0, .int .i64 0, .slice none 0 0] 26 (0, 0)) (bP m.out) hg (zQ x.out m.out (by decide)))
           replace d := mA (Zaq (g := E) (o := .cells #[.int .i64 s, .int .i64 0, .int .i64 0, T] 26 (0, 0)) (bP d.out) hg (zQ x.out d.out (by decide)))
           replace HB := mA (hb)
           have co := mA (ho)
           clear x ho hb hg hat
           refine hK.out _ _ ?_
           clear hK K
           refine putS 104 ?_
           refine Zav (i := 14) (N := some 6) (Zaw HT_.out (by kernel_rfl)) ?_
           refine done_ (done_of HT_.out (by kernel_rfl)) ?_
           have dy : 0 ≤ (ac : Int) := ofD
           have dD : ac < (ce.length : Int) := (by have h_ : (ac : Int) < ((D.length : Int) : Int) := ofD; first | (have e_ := (zK u.out).1; omega) | simpa only [eP.out, List.length_set] using h_)
           have iu : ((ac : Int) < ((D.length : Int) : Int)) = True := eq_true (ofD)
           obtain ⟨gz, hD, bI⟩ := zO (zK u.out).2.2 ac dy dD
           obtain rfl : (⟨an, 0, none⟩ : Addr) = gz := (by injection hD)
           (first | simp only [Zcg] at bI | simp only [add_at] at bI | simp only [Addr.add, Nat.zero_add] at bI | skip)
           replace dy := eq_true dy
           replace dD := eq_true dD
           try go_wp2_with (first | ((with_reducible refine Zbp (b := .append) (xs := #[.tmp 105, .tmp 110]) rfl ?_); at_builtin; refine xN (Kd.int .i64) (w0 := w) w.heap.size rfl (.tmp 105) (.tmp 110) 33 2 (.int .i64 0) 8 rfl Try.underlying33 info2 rfl (by decide) (by omega) u10 am (rd ce ac) [.int .i64 (rd ce ac)] (fun k_ => some k_ ≠ (.slice (some z) r.length J : Value).ownBlock ∧ some k_ ≠ (.slice (some ⟨an, 0, none⟩) D.length G : Value).ownBlock ∧ some k_ ≠ (dU : Value).ownBlock) (fun _ => False) rfl rfl ?aP (fun _ hk => hk.elim) ?aF ?aO ?aB ?aS ?aL ?_; (case aP => exact rfl); (case aB => exact (bW)); (case aF => exact (fun k_ hk => ⟨zY (zN (rP B.out)) k_ hk, zY (zN (rP u.out)) k_ hk, zY (zN (rP co.out)) k_ hk⟩)); (case aO => exact (by (with_reducible repeat (first | apply zD | apply zE | apply zA)); exact zC L.out (fun _ hk => ⟨hk.1.1, ⟨hk.1.2, hk.2⟩⟩))); (case aS => exact (Zan (bW))); (case aL => have := gv.out; omega); intro iU i4 ho hb hg hat; rw [← gw.out] at ho; replace B := mA (zU (ok := (fun k_ => some k_ ≠ (.slice (some ⟨an, 0, none⟩) D.length G : Value).ownBlock ∧ some k_ ≠ (dU : Value).ownBlock)) (by (with_reducible repeat (first | apply zD | apply zE | apply zA)); exact zC B.out (fun _ hk => ⟨⟨hk.1.1, hk.2⟩, hk.1.2⟩)) hg hat); replace u := mA (zU (ok := (fun k_ => some k_ ≠ (.slice (some z) r.length J : Value).ownBlock ∧ some k_ ≠ (dU : Value).ownBlock)) (by (with_reducible repeat (first | apply zD | apply zE | apply zA)); exact zC u.out (fun _ hk => ⟨⟨hk.1.1, hk.2⟩, hk.1.2⟩)) hg hat); replace l := mA (xD (ok := (fun k_ => some k_ ≠ (.slice (some z) r.length J : Value).ownBlock ∧ some k_ ≠ (.slice (some ⟨an, 0, none⟩) D.length G : Value).ownBlock ∧ some k_ ≠ (dU : Value).ownBlock)) (by (with_reducible repeat (first | apply zI | apply zJ | apply zG)); exact zF l.out (fun _ hk => ⟨⟨hk.1.1, ⟨hk.1.2.1, hk.2⟩⟩, hk.1.2.2⟩)) hg hat); replace c := mA (Zaq (g := O) (o := .cells #[.int .i64 s, .slice (some au) A.length ag, .slice ak P.length ah] 95 (0, 0)) (bP c.out) hg (zQ L.out c.out (by decide))); replace m := mA (Zaq (g := W) (o := .cells #[.int .i64 0, .int .i64 0, .int .i64 0, .slice none 0 0] 26 (0, 0)) (bP m.out) hg (zQ L.out m.out (by decide))); replace d := mA (Zaq (g := E) (o := .cells #[.int .i64 s, .int .i64 0, .int .i64 0, T] 26 (0, 0)) (bP d.out) hg (zQ L.out d.out (by decide))); replace co := mA (zU (ok := (fun k_ => some k_ ≠ (.slice (some z) r.length J : Value).ownBlock ∧ some k_ ≠ (.slice (some ⟨an, 0, none⟩) D.length G : Value).ownBlock)) (by (with_reducible repeat (first | apply zD | apply zE | apply zA)); exact zC co.out (fun _ hk => ⟨⟨hk.1, hk.2.1⟩, hk.2.2⟩)) hg hat); replace HB := mA (hb); have gA := mA (ho); clear L ho hb hg hat))
           (try simp only [← q])
           go_roundg em
           case measure => have := av.out; have := ar.out; have := bb.out; have := a9.out; have := cd.out; omega
           case rel => exact ⟨(hv), (ce), (hx), (wrap64 (Y + 1)), (eW), H', ⟨by have := av.out; have := ar.out; have := bb.out; have := a9.out; have := cd.out; omega⟩, ⟨by (try simp only [a]); (try simp only [j]); (try simp only [q]); (with_reducible repeat (first | apply zD | apply zE | apply zA)); exact zC B.out (fun _ hk => ⟨hk.1.2, ⟨hk.1.1, hk.2⟩⟩)⟩, ⟨by (try simp only [a]); (try simp only [j]); (try simp only [q]); (with_reducible repeat (first | apply zD | apply zE | apply zA)); exact zC co.out (fun _ hk => ⟨hk.1.1, ⟨hk.1.2, hk.2⟩⟩)⟩, ⟨by (try simp only [a]); (try simp only [j]); (try simp only [q]); (with_reducible repeat (first | apply zD | apply zE | apply zA)); exact zC u.out (fun _ hk => ⟨hk.1.1, ⟨hk.1.2, hk.2⟩⟩)⟩, ⟨by (try simp only [a]); (try simp only [j]); (try simp only [q]); (with_reducible repeat (first | apply zD | apply zE | apply zA)); exact zC gA.out (fun _ hk => ⟨hk.1, ⟨hk.2.2, hk.2.1⟩⟩)⟩, ⟨by (try simp only [a]); (try simp only [j]); (try simp only [q]); (with_reducible repeat (first | apply zI | apply zJ | apply zG)); exact zF l.out (fun _ hk => ⟨hk.1.1, ⟨hk.1.2.2, ⟨hk.1.2.1, hk.2⟩⟩⟩)⟩, ⟨by (try simp only [a]); (try simp only [j]); (try simp only [q]); exact bP c.out⟩, ⟨by (try simp only [a]); (try simp only [j]); (try simp only [q]); exact bP m.out⟩, ⟨by (try simp only [a]); (try simp only [j]); (try simp only [q]); exact bP d.out⟩, ⟨bW⟩⟩
end Go.Proofs.Ytgindgodfcfgkaa.P
end M0
