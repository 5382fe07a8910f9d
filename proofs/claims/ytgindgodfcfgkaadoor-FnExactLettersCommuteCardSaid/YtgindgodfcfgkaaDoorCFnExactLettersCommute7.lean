import Derived.Test.YtgindgodfcfgkaaDoorCFnExactLettersCommute6
section M0
namespace Go.Proofs.YtgindgodfcfgkaaDoor.P
open Go.RowKit Go.Proofs.YtgindgodfcfgkaaDoor.Sh Go.Proofs.YtgindgodfcfgkaaDoorW.PrintWords Go.Proofs.YtgindgodfcfgkaaDoorW.PrintLast Go.Proofs.YtgindgodfcfgkaaDoorW.PrintMore
open Kd
attribute [local go_sem] Zcd Zca Zcn Zcm Zb1 Zb2 Zcc Zce   -- for this text's walks alone
set_option linter.unusedVariables false
set_option linter.unusedSimpArgs false
mutual
def Zah.l0 : Nat → List Int → List Int → List Int → Int → Int → List (List Int) → List Bool → Int → Int → Int → Option (Int × Int × Int × (List (List Int)) × Int)
 | 0, _, _, _, _, _, _, _, _, _, _ => none
 | k + 1, x4, x6, x7, x8, a, b, c, d, e, g => if x8 < (x7.length : Int) then (if 0 ≤ x8 then (Zah.l0 k x4 x6 (x7.set (x8 : Int).toNat (-1)) (wrap64 (x8 + 1)) a b c d e g) else (none)) else (if 0 < (x4.length : Int) then (if (rd x4 0) ≥ 0 then (if 0 ≤ (rd x4 0) then (if (rd x4 0) < (x7.length : Int) then (Zah.j1 k x4 x6 (x7.set ((rd x4 0) : Int).toNat 0) a b c d e g) else (none)) else (none)) else (Zah.j1 k x4 x6 x7 a b c d e g)) else (none))
def Zah.j1 : Nat → List Int → List Int → List Int → Int → List (List Int) → List Bool → Int → Int → Int → Option (Int × Int × Int × (List (List Int)) × Int)
 | 0, _, _, _, _, _, _, _, _, _ => none
 | k + 1, x4, x6, x7, a, b, c, d, e, g => Zah.l1 k x4 x6 x7 0 a b c d e g ([] : List (List Int))
def Zah.l1 : Nat → List Int → List Int → List Int → Int → Int → List (List Int) → List Bool → Int → Int → Int → List (List Int) → Option (Int × Int × Int × (List (List Int)) × Int)
 | 0, _, _, _, _, _, _, _, _, _, _, _ => none
 | k + 1, x4, x6, x7, x9, a, b, c, d, e, g, h => if x9 < (x6.length : Int) then (Zah.l2 k x4 x6 x7 x9 (([] : List Int)) 0 a b c d e g h) else (if (x6.length : Int) > 16 then (some (0, 0, 0, ([] : List (List Int)), (x6.length : Int))) else (Zah.l3 k x6 (x6.length : Int) 0 a b c d e g h))
def Zah.l2 : Nat → List Int → List Int → List Int → Int → List Int → Int → Int → List (List Int) → List Bool → Int → Int → Int → List (List Int) → Option (Int × Int × Int × (List (List Int)) × Int)
 | 0, _, _, _, _, _, _, _, _, _, _, _, _, _ => none
 | k + 1, x4, x6, x7, x9, l, i, b, a, d, e, g, h, c => if i < b then (if 0 ≤ x9 then (if x9 < (x6.length : Int) then (if 0 ≤ (rd x6 x9) then (if (rd x6 x9) < (a.length : Int) then (if 0 ≤ i then (if i < ((Zae a (rd x6 x9)).length : Int) then ((Zbf.f x4 (rd (Zae a (rd x6 x9)) i)).bind fun j => (if 0 < (x4.length : Int) then (if (rd x4 0) < 0 then (Zah.j4 k x4 x6 x7 x9 l i j true b a d e g h c) else (Zah.j4 k x4 x6 x7 x9 l i j (decide (j < 0)) b a d e g h c)) else (none))) else (none)) else (none)) else (none)) else (none)) else (none)) else (none)) else (if c.length < 5864062014805 then (Zah.l1 k x4 x6 x7 (wrap64 (x9 + 1)) b a d e g h (c ++ [l])) else (none))
def Zah.j4 : Nat → List Int → List Int → List Int → Int → List Int → Int → Int → Bool → Int → List (List Int) → List Bool → Int → Int → Int → List (List Int) → Option (Int × Int × Int × (List (List Int)) × Int)
 | 0, _, _, _, _, _, _, _, _, _, _, _, _, _, _, _ => none
 | k + 1, x4, x6, x7, x9, i, j, l, n, b, a, c, d, e, g, h => if n = true then (if i.length < 17592186044416 then (Zah.l2 k x4 x6 x7 x9 (i ++ [(-1)]) (wrap64 (j + 1)) b a c d e g h) else (none)) else (if 0 ≤ l then (if l < (x7.length : Int) then (if (rd x7 l) < 0 then ((some (x7.set (l : Int).toNat (x6.length : Int) : List Int)).bind fun m => (if 0 ≤ x9 then (if x9 < (x6.length : Int) then (if 0 ≤ (rd x6 x9) then (if (rd x6 x9) < (a.length : Int) then (if 0 ≤ j then (if j < ((Zae a (rd x6 x9)).length : Int) then (if x6.length < 17592186044416 then (if i.length < 17592186044416 then (Zah.l2 k x4 (x6 ++ [rd (Zae a (rd x6 x9)) j]) m x9 (i ++ [rd m l]) (wrap64 (j + 1)) b a c d e g h) else (none)) else (none)) else (none)) else (none)) else (none)) else (none)) else (none)) else (none))) else (if i.length < 17592186044416 then (Zah.l2 k x4 x6 x7 x9 (i ++ [rd x7 l]) (wrap64 (j + 1)) b a c d e g h) else (none))) else (none)) else (none))
def Zah.l3 : Nat → List Int → Int → Int → Int → List (List Int) → List Bool → Int → Int → Int → List (List Int) → Option (Int × Int × Int × (List (List Int)) × Int)
 | 0, _, _, _, _, _, _, _, _, _, _ => none
 | k + 1, x6, j, b, h, i, a, c, d, e, g => if b < j then (if 0 ≤ b then (if b < (x6.length : Int) then (if 0 ≤ (rd x6 b) then (if (rd x6 b) < (a.length : Int) then (if rdOf false a (rd x6 b) = true then ((Zda.f b).bind fun l => (Zah.l3 k x6 j (wrap64 (b + 1)) h i a c d (Go.bits .or .i64 e l) g)) else (Zah.l3 k x6 j (wrap64 (b + 1)) h i a c d e g)) else (none)) else (none)) else (none)) else (none)) else (some (c, d, e, g, j))
end
def Zah.f (k : Nat) (b : Int) (a : List (List Int)) (c : List Bool) : Option (Int × Int × Int × (List (List Int)) × Int) := (Zao.f k b a c).bind fun d => (if 0 ≤ (wrap64 ((a.length : Int) + 1)) then (if (wrap64 ((a.length : Int) + 1) : Int).toNat ≤ 35184372088832 then (Zah.l0 k d (([0] : List Int)) (List.replicate (wrap64 ((a.length : Int) + 1) : Int).toNat 0) 0 b a c b 0 0) else (none)) else (none))
def Zah.T18 : Bool × List (List Nat × List Nat) := (true, [([], []), ([], []), ([1], [1]), ([], []), ([], []), ([3, 4], [3, 4]), ([5], [5]), ([2, 6], [2, 6]), ([7], [7]), ([], []), ([8, 9], [8, 9]), ([10], [10]), ([0, 11], [0, 11]), ([12, 12, 0, 1, 2, 3, 4, 5, 6, 7, 8, 9, 10, 11, 12], [12])])
def Zah.B18 : List Nat := [0, 0, 2, 0, 0, 24, 56, 126, 254, 0, 1022, 2046, 4095, 8191]
theorem Zah.tab18 : rtab .any (opsOf Tryd.f46 18) = Zah.T18 := by kernel_rfl
theorem Zah.bits18 : Zc0 Zah.T18.2 Zah.B18 = true := by kernel_rfl
def Zah.T23 : Bool × List (List Nat × List Nat) := (true, [([], []), ([], []), ([1], [1]), ([], []), ([], []), ([3, 4], [3, 4]), ([5], [5]), ([2, 6], [2, 6]), ([7], [7]), ([], []), ([8, 9], [8, 9]), ([10], [10]), ([11], [11]), ([0, 12], [0, 12]), ([13, 13, 0, 1, 2, 3, 4, 5, 6, 7, 8, 9, 10, 11, 12, 13], [0, 3, 13])])
def Zah.B23 : List Nat := [0, 0, 2, 0, 0, 24, 56, 126, 254, 0, 1022, 2046, 4094, 8191, 16383]
theorem Zah.tab23 : rtab .any (opsOf Tryd.f46 23) = Zah.T23 := by kernel_rfl
theorem Zah.bits23 : Zc0 Zah.T23.2 Zah.B23 = true := by kernel_rfl
def Zah.T32 : Bool × List (List Nat × List Nat) := (true, [([], []), ([0], [0]), ([], []), ([], []), ([2, 3], [2, 3]), ([4], [4]), ([1, 5], [1, 5]), ([6], [6])])
def Zah.B32 : List Nat := [0, 1, 0, 0, 12, 28, 63, 127]
theorem Zah.tab32 : rtab .any (opsOf Tryd.f46 32) = Zah.T32 := by kernel_rfl
theorem Zah.bits32 : Zc0 Zah.T32.2 Zah.B32 = true := by kernel_rfl
set_option maxHeartbeats 8000000 in
set_option maxRecDepth 100000 in
theorem Zah.calls (k : Nat) (s : Int) (ap : Option Addr) (ag : Nat) (A : List (List Int)) (ak : Option Addr) (ah : Nat) (P : List Bool) (r1 : Int) (r2 : Int) (r3 : Int) (r4 : List (List Int)) (r5 : Int) (w : World) (cT : Kd.C (Kd.slice 2 (Kd.int .i64)) w ap A.length A) (cU : A.length ≤ ag) (cV : Kd.C Kd.bool w ak P.length P) (cW : P.length ≤ ah) (h : Zah.f k s A P = some (r1, r2, r3, r4, r5)) :
  Calls Tryd.prog 46 #[.agg #[.int .i64 s, .slice ap A.length ag, .slice ak P.length ah]] w fun e w' => ∃ fM : Value, e = .returned (.tuple #[.agg #[.int .i64 r1, .int .i64 r2, .int .i64 r3, fM], .int .i64 r5]) ∧ Kd.S (Kd.slice 2 (Kd.int .i64)) 22 w' w.heap.size (fun _ => True) fM r4 ∧ Below w.heap.size w w' := by
 have ix := Tryd.underlying69
 have iy := Tryd.underlying34
 have bS := mA cT
 have eV := mA cU
 clear cT cU
 have bT := mA cV
 have eX := mA cW
 clear cV cW
 have HB := mA (Below.refl w.heap.size w)
 unfold Zah.f at h
 have H := h
 clear h
 replace H := bE H
 obtain ⟨r, fN, H⟩ := H
 have A2 := mA fN
 clear fN
 obtain ⟨ba, bU⟩ : ∃ y_ : List Int, y_ = (([0] : List Int)) := ⟨_, rfl⟩
 rw [← bU] at H
 have cX := mA bU
 clear bU
 obtain ⟨a5, bb⟩ : ∃ j_ : Int, (wrap64 ((A.length : Int) + 1)) = j_ := ⟨_, rfl⟩
 replace H : (if 0 ≤ (a5) then (if (a5 : Int).toNat ≤ 35184372088832 then (Zah.l0 k r ba (List.replicate (a5 : Int).toNat 0) 0 s A P s 0 0) else (none)) else (none)) = some (r1, r2, r3, r4, r5) := by first | (rw [bb] at H; exact H) | (simp only [bb] at H ⊢; exact H)
 (try rw [bb] at A2)
 have hR : (IntKind.i64.wrap ((A.length : Int) + 1)) = a5 := (i64_w _).trans bb
 by_cases c4 : 0 ≤ (a5); rotate_left
 ·rw [if_neg c4] at H
  exact absurd H (by simp)
 rw [if_pos c4] at H
 have fR := eq_true c4
 have fS := dT c4
 clear c4
 by_cases c5 : (a5 : Int).toNat ≤ 35184372088832; rotate_left
 ·rw [if_neg c5] at H
  exact absurd H (by simp)
 rw [if_pos c5] at H
 have fT := eq_true c5
 have fU := dT c5
 clear c5
 obtain ⟨fV, bV⟩ : ∃ y_ : List Int, y_ = (List.replicate (a5 : Int).toNat 0) := ⟨_, rfl⟩
 rw [← bV] at H
 have cY := mA bV
 clear bV
 have H' := mA H
 clear H
 go_enter Tryd.func46, Tryd.ntmps46
 go_wp2_with (first | ((with_reducible refine Zap (N := 1) rfl ?_); refine boxS (N := 1) (cs := #[.int .i64 s, .slice ap A.length ag, .slice ak P.length ah]) (t := 69) ?_; intro O hg w6 hbox hb; have c := mA (hbox); have hS := geW (w := w) hg; have hT := geW (w := w) hg; replace HB := mA (Zac (bW) hb); clear hb hbox hg) | ((with_reducible refine Zap (N := 2) rfl ?_); refine boxS (N := 2) (cs := #[.int .i64 0, .int .i64 0, .int .i64 0, .slice none 0 0]) (t := 34) ?_; intro W hg w7 hbox hb; have m := mA (hbox); have hU := geW (w := w) hg; have hV := geW (w := w) hg; replace HB := mA (Zac (bW) hb); have aw := mA (neB hg c); have ax := mA (neC hg c); replace c := mA (blkB c.out hb); clear hb hbox hg; have iz := aw.out; have iA := ax.out; obtain ⟨ek, el, em⟩ := cells3 c.out; obtain ⟨en, eo, ep⟩ := frz3 c.out) | ((with_reducible refine Zav (f := 68) rfl ?_); refine Zbo (some 16) Tryd.func68 #[.agg #[.int .i64 s, .slice ap A.length ag, .slice ak P.length ah]] ?_; (with_reducible refine (Zao.calls k s _ _ A _ _ P r _ ?side1 ?side2 ?side3 ?side4 A2.out).mono ?_); (case side1 => exact cP (zF bS.out HB.out)); (case side2 => exact eV.out); (case side3 => exact cP (zF bT.out HB.out)); (case side4 => exact eX.out); rintro e iX ⟨bq, rfl, fO, hb⟩; refine ⟨_, rfl, ?_⟩; have aC := mA (zP fO (Zag (bW))); replace c := mA (blkB c.out hb); replace m := mA (blkB m.out hb); replace HB := mA (Zac (bW) hb); (try clear hb); (try clear hb2); (try clear hk); (try clear hi); (try clear fO); obtain ⟨dR, dS, dU⟩ := cells3 c.out; obtain ⟨dV, dW, dX⟩ := frz3 c.out) | ((with_reducible refine Zap (N := 5) rfl ?_); refine boxS (N := 5) (cs := #[.int .i64 0, .int .i64 0, .int .i64 0, .slice none 0 0]) (t := 34) ?_; intro E hg iY hbox hb; replace aC := mA (zK (rP aC.out) hb); have d := mA (hbox); have hW := geW (w := w) hg; have hX := geW (w := w) hg; replace HB := mA (Zac (bW) hb); have ae := mA (neB hg c); have ay := mA (neC hg c); replace c := mA (blkB c.out hb); have af := mA (neB hg m); have az := mA (neC hg m); replace m := mA (blkB m.out hb); clear hb hbox hg; have hY := ay.out; have hZ := ae.out; have h0 := az.out; have h1 := af.out; obtain ⟨dY, dZ, d0, d1⟩ := Zbi d.out; obtain ⟨d2, d3, d4, d5⟩ := frz4 d.out) | ((with_reducible refine Zap (N := 20) rfl ?_); refine yT (Kd.int .i64) _ 2 ?hg (N := 20) ?hd (xs := ([0] : List Int)) (inner := [.int .i64 0]) (ok := fun _ => True) (okp := fun _ => True) ?hr ?hp (fun _ hk => hk) trivial (Below.refl _ _) (Nat.le_refl _) (by simp) ?_; (case hd => rfl); (case hg => rfl); (case hr => first | (go_simp; done) | (go_simp; rfl)); (case hp => exact (Reps.one (show Kd.M (Kd.int .i64) _ _ _ 0 [.int .i64 0] from rfl) (Reps.none _ _))); intro aJ iZ bd hb hg_ hnew_; clear hg_ hnew_; (first | rw [← cX.out] at bd | (simp only [Int.reduceToNat] at bd; rw [← cX.out] at bd)); have bm := mA (zP (zS bd (zG (by (with_reducible repeat (first | apply zC | apply zD | apply zA)); exact (zB (zQ (p := ⟨E, 3, none⟩) (zQ (p := ⟨E, 2, none⟩) (zQ (p := ⟨E, 1, none⟩) (zQ (p := ⟨E, 0, none⟩) (yA aC.out d.out (by decide)) (fun _ hk => hk.2) (.int .i64 s)) (fun _ hk => hk.2) (.int .i64 0)) (fun _ hk => hk.2) (.int .i64 0)) (fun _ hk => hk.2) (.slice none 0 0)) (fun _ h_ => h_.1))))) (Zag (bW))); replace aC := mA (zR (by (with_reducible repeat (first | apply zC | apply zD | apply zA)); exact (zB (zQ (p := ⟨E, 3, none⟩) (zQ (p := ⟨E, 2, none⟩) (zQ (p := ⟨E, 1, none⟩) (zQ (p := ⟨E, 0, none⟩) (yA aC.out d.out (by decide)) (fun _ hk => hk.2) (.int .i64 s)) (fun _ hk => hk.2) (.int .i64 0)) (fun _ hk => hk.2) (.int .i64 0)) (fun _ hk => hk.2) (.slice none 0 0)) (fun _ h_ => h_.1))) (zH bd) hb); replace c := mA (Zc3 (g := O) (o := .cells #[.int .i64 s, .slice ap A.length ag, .slice ak P.length ah] 69 (0, 0)) (by (with_reducible repeat (first | refine Zaj ?_ _ | refine Zad ?_ | refine Zaf ?_ _)); refine Za4 ?_ ae.out _; (with_reducible repeat (first | refine Zaj ?_ _ | refine Zad ?_ | refine Zaf ?_ _)); refine Za4 ?_ ae.out _; (with_reducible repeat (first | refine Zaj ?_ _ | refine Zad ?_ | refine Zaf ?_ _)); refine Za4 ?_ ae.out _; (with_reducible repeat (first | refine Zaj ?_ _ | refine Zad ?_ | refine Zaf ?_ _)); refine Za4 ?_ ae.out _; exact bP c.out) hb); replace m := mA (Zc3 (g := W) (o := .cells #[.int .i64 0, .int .i64 0, .int .i64 0, .slice none 0 0] 34 (0, 0)) (by (with_reducible repeat (first | refine Zaj ?_ _ | refine Zad ?_ | refine Zaf ?_ _)); refine Za4 ?_ af.out _; (with_reducible repeat (first | refine Zaj ?_ _ | refine Zad ?_ | refine Zaf ?_ _)); refine Za4 ?_ af.out _; (with_reducible repeat (first | refine Zaj ?_ _ | refine Zad ?_ | refine Zaf ?_ _)); refine Za4 ?_ af.out _; (with_reducible repeat (first | refine Zaj ?_ _ | refine Zad ?_ | refine Zaf ?_ _)); refine Za4 ?_ af.out _; exact bP m.out) hb); replace d := mA (Zc3 (g := E) (o := .cells #[.int .i64 s, .int .i64 0, .int .i64 0, .slice none 0 0] 34 (0, 0)) (by (with_reducible repeat (first | refine Zaj ?_ _ | refine Zad ?_ | refine Zaf ?_ _)); refine Za3 (cs := #[.int .i64 s, .int .i64 0, .int .i64 0, .slice none 0 0]) ?_ 3 _ rfl; (with_reducible repeat (first | refine Zaj ?_ _ | refine Zad ?_ | refine Zaf ?_ _)); refine Za3 (cs := #[.int .i64 s, .int .i64 0, .int .i64 0, .slice none 0 0]) ?_ 2 _ rfl; (with_reducible repeat (first | refine Zaj ?_ _ | refine Zad ?_ | refine Zaf ?_ _)); refine Za3 (cs := #[.int .i64 s, .int .i64 0, .int .i64 0, .slice none 0 0]) ?_ 1 _ rfl; (with_reducible repeat (first | refine Zaj ?_ _ | refine Zad ?_ | refine Zaf ?_ _)); refine Za3 (cs := #[.int .i64 0, .int .i64 0, .int .i64 0, .slice none 0 0]) ?_ 0 _ rfl; exact bP d.out) hb); replace HB := mA (Zac (bW) hb); clear hb bd; obtain ⟨d6, d7, d8⟩ := cells3 c.out; obtain ⟨d9, ea, eb⟩ := frz3 c.out) | ((with_reducible refine Zap (N := 25) rfl ?_); refine xO (Kd.int .i64) _ 2 rfl (N := 25) rfl 22 _ _ rfl a5 rfl rfl Tryd.underlying22 (.int .i64 0) 8 info2 rfl (by decide) (by omega) 0 (ok := fun _ => True) (okp := fun _ => True) rfl (fun _ hk => hk) trivial (ofD) (Nat.le_trans (Nat.mul_le_mul_right _ (ofD : a5.toNat ≤ 35184372088832)) (by omega)) (Below.refl _ _) (Nat.le_refl _) ?_; intro cu i0 aU hb hg_ hnew_; clear hg_ hnew_; (first | rw [← cY.out] at aU | (simp only [Int.reduceToNat] at aU; rw [← cY.out] at aU)); have eY := mA (zP (zS (zS aU (zG (rP aC.out))) (zG (rP bm.out))) (Zag (bW))); replace aC := mA (zR (rP aC.out) (zH aU) hb); replace bm := mA (zR (rP bm.out) (zH aU) hb); replace c := mA (blkB c.out hb); replace m := mA (blkB m.out hb); replace d := mA (blkB d.out hb); replace HB := mA (Zac (bW) hb); clear hb aU))
 go_loopg [8] k (fun kq v8 w' => ∃ (al : List Int) (aA : Int), v8 = .int .i64 aA ∧ Zaa (Zah.l0 kq r ba al aA s A P s 0 0 = some (r1, r2, r3, r4, r5)) ∧ Zaa (kq ≤ k) ∧ Zaa (Kd.R (Kd.int .i64) 2 w' w.heap.size (fun k_ => some k_ ≠ (aJ : Value).ownBlock ∧ some k_ ≠ (cu : Value).ownBlock) bq r) ∧ Zaa (Kd.R (Kd.int .i64) 2 w' w.heap.size (fun k_ => some k_ ≠ (bq : Value).ownBlock ∧ some k_ ≠ (cu : Value).ownBlock) aJ ba) ∧ Zaa (Kd.R (Kd.int .i64) 2 w' w.heap.size (fun k_ => some k_ ≠ (bq : Value).ownBlock ∧ some k_ ≠ (aJ : Value).ownBlock) cu al) ∧ Zaa (w'.heap[O]? = some (.cells #[.int .i64 s, (.slice ap A.length ag), (.slice ak P.length ah)] 69 (0, 0))) ∧ Zaa (w'.heap[W]? = some (.cells #[.int .i64 0, .int .i64 0, .int .i64 0, (.slice none 0 0)] 34 (0, 0))) ∧ Zaa (w'.heap[E]? = some (.cells #[.int .i64 s, .int .i64 0, .int .i64 0, (.slice none 0 0)] 34 (0, 0))) ∧ Zaa (Below w.heap.size w w'))
 case atStart => exact ⟨(fV), (0), (eW), H', ⟨Nat.le_refl _⟩, ⟨by (with_reducible repeat (first | apply zC | apply zD | apply zA)); exact zB aC.out (fun _ hk => ⟨hk.1.2, hk.2⟩)⟩, ⟨by (with_reducible repeat (first | apply zC | apply zD | apply zA)); exact zB bm.out (fun _ hk => ⟨hk.1.2, hk.2⟩)⟩, ⟨by (with_reducible repeat (first | apply zC | apply zD | apply zA)); exact zB eY.out (fun _ hk => ⟨hk.1.2, hk.2⟩)⟩, ⟨bP c.out⟩, ⟨bP m.out⟩, ⟨bP d.out⟩, ⟨bW⟩⟩
 case round =>
  clear H' fR fS fT fU dR dS dU dY dZ d0 d1 d6 d7 d8 ek el em dV dW dX d2 d3 d4 d5 d9 ea eb en eo ep
  obtain ⟨al, aA, rfl, HA, au, B, x, u, c, m, d, HB⟩ := hrel
  cases gk with
  | zero => exact absurd HA.out (by simp [Zah.l0])
  | succ k1 =>
   have H := HA.out
   clear HA
   simp only [Zah.l0] at H
   by_cases bw : aA < (al.length : Int)
   ·rw [if_pos bw] at H
    have cZ := dT bw
    clear bw
    by_cases c0 : 0 ≤ aA; rotate_left
    ·rw [if_neg c0] at H
     exact absurd H (by simp)
    rw [if_pos c0] at H
    have h2 := dT c0
    clear c0
    obtain ⟨er, bX⟩ : ∃ y_ : List Int, y_ = (al.set (aA : Int).toNat (-1)) := ⟨_, rfl⟩
    rw [← bX] at H
    have eZ := mA bX
    clear bX
    have H' := mA H
    clear H
    obtain ⟨iB, br, fW⟩ := zJ u.out
    subst fW
    have es : 0 ≤ (aA : Int) := ofD
    have et : (aA : Int) < ((al.length : Int) : Int) := ofD
    obtain ⟨aV, iC, eu, ev, fX, iD, ew⟩ := yV u.out (by omega)
    (first | cases eu | (injection eu with ea_ en_ ec_; (first | subst ea_ | (injection ea_ with ea_; subst ea_)); subst ec_; clear en_))
    have fY := mA ev
    have iE := mA ew
    clear ev fX ew
    obtain ⟨hy, hz⟩ := yH 0 u.out (aA : Int) es et
    replace es := eq_true es
    replace et := eq_true et
    have cv := yN u.out (aA : Int) (-1)
    go_wp2_with (first | ((with_reducible refine Zbp (t := 2) (p := 34) rfl ?_); refine Zdi (t := 2) (p := 34) (w1 := (wr.setCell ⟨aV, (aA : Int).toNat, none⟩ (.int .i64 (-1)))) ?_; intro ey hw; have hg : wr.grownBy ey (some aV) := (by rw [hw]; exact cv.2); have hp_ : Kd.R (Kd.int .i64) 2 ey w.heap.size (fun k_ => some k_ ≠ (bq : Value).ownBlock ∧ some k_ ≠ (aJ : Value).ownBlock) (.slice (some ⟨aV, 0, none⟩) al.length br) er := (by rw [hw, eZ.out]; exact cv.1); clear cv; replace B := mA (zU (v := (.slice (some ⟨aV, 0, none⟩) al.length br)) (v1 := (.slice (some ⟨aV, 0, none⟩) al.length br)) (ok := (fun k_ => some k_ ≠ (aJ : Value).ownBlock)) (rP B.out) hg (.inl rfl)); replace x := mA (zU (v := (.slice (some ⟨aV, 0, none⟩) al.length br)) (v1 := (.slice (some ⟨aV, 0, none⟩) al.length br)) (ok := (fun k_ => some k_ ≠ (bq : Value).ownBlock)) (rP x.out) hg (.inl rfl)); replace c := mA (Zaq (g := O) (o := .cells #[.int .i64 s, .slice ap A.length ag, .slice ak P.length ah] 69 (0, 0)) (bP c.out) hg (zO u.out c.out (by decide))); replace m := mA (Zaq (g := W) (o := .cells #[.int .i64 0, .int .i64 0, .int .i64 0, .slice none 0 0] 34 (0, 0)) (bP m.out) hg (zO u.out m.out (by decide))); replace d := mA (Zaq (g := E) (o := .cells #[.int .i64 s, .int .i64 0, .int .i64 0, .slice none 0 0] 34 (0, 0)) (bP d.out) hg (zO u.out d.out (by decide))); replace u := mA (hp_); replace HB := mA ((by rw [hw]; exact Zbs (HB.out) fY.out : Below w.heap.size w ey)); clear hg hw hp_))
    go_roundg k1
    case measure => have := au.out; omega
    case rel => exact ⟨(er), (wrap64 (aA + 1)), (eW), H', ⟨by have := au.out; omega⟩, ⟨rP B.out⟩, ⟨rP x.out⟩, ⟨rP u.out⟩, ⟨bP c.out⟩, ⟨bP m.out⟩, ⟨bP d.out⟩, ⟨bW⟩⟩
   rw [if_neg bw] at H
   have cZ := dF bw
   clear bw
   by_cases c1 : 0 < (r.length : Int); rotate_left
   ·rw [if_neg c1] at H
    exact absurd H (by simp)
   rw [if_pos c1] at H
   have e0 := dT c1
   have e1 : decide (0 < r.length) = true := decide_eq_true (by omega)
   clear c1
   have cw := mA H
   clear H
   obtain ⟨ai, G, fZ⟩ := zJ u.out
   subst fZ
   obtain ⟨iG, J, f3⟩ := zJ B.out
   subst f3
   have bY : 0 ≤ (0 : Int) := (by omega)
   have bZ : 0 < (r.length : Int) := ofD
   obtain ⟨z, f4, bf⟩ := zI (zE B.out).2.2 0 bY bZ
   cases f4
   have h3 : (0 < r.length) = True := eq_true (by omega)
   (try rw [show ((0 : Int)).toNat = 0 from rfl] at bf)
   (try rw [Addr.add_zero'] at bf)
   replace bY := eq_true bY
   replace bZ := eq_true bZ
   go_upto_if 38 with (fail)
   go_cut [] (fun wc => ∃ (kq : Nat) (aH : List Int), Zaa (Zah.j1 kq r ba aH s A P s 0 0 = some (r1, r2, r3, r4, r5)) ∧ Zaa (kq ≤ k1) ∧ Zaa (Kd.R (Kd.int .i64) 2 wc w.heap.size (fun k_ => some k_ ≠ (aJ : Value).ownBlock ∧ some k_ ≠ ((.slice ai al.length G) : Value).ownBlock) (.slice (some z) r.length J) r) ∧ Zaa (Kd.R (Kd.int .i64) 2 wc w.heap.size (fun k_ => some k_ ≠ ((.slice (some z) r.length J) : Value).ownBlock ∧ some k_ ≠ ((.slice ai al.length G) : Value).ownBlock) aJ ba) ∧ Zaa (Kd.R (Kd.int .i64) 2 wc w.heap.size (fun k_ => some k_ ≠ ((.slice (some z) r.length J) : Value).ownBlock ∧ some k_ ≠ (aJ : Value).ownBlock) (.slice ai al.length G) aH) ∧ Zaa (wc.heap[O]? = some (.cells #[.int .i64 s, (.slice ap A.length ag), (.slice ak P.length ah)] 69 (0, 0))) ∧ Zaa (wc.heap[W]? = some (.cells #[.int .i64 0, .int .i64 0, .int .i64 0, (.slice none 0 0)] 34 (0, 0))) ∧ Zaa (wc.heap[E]? = some (.cells #[.int .i64 s, .int .i64 0, .int .i64 0, (.slice none 0 0)] 34 (0, 0))) ∧ Zaa (Below w.heap.size w wc))
   case first =>
    have H := cw.out
    clear cw
    by_cases bx : (rd r 0) ≥ 0; rotate_left
    ·rw [if_neg bx] at H
     have a6 : decide (0 ≤ (rd r 0)) = false := dF bx
     clear bx
     (first | rw [a6] | (simp only [i64_w, i32_w]; rw [a6]) | skip)
     have H' := mA H
     clear H
     go_wp2
     go_meet
     case rel => exact ⟨_, (al), H', ⟨by have := au.out; first | omega | exact Nat.le_refl _⟩, ⟨rP B.out⟩, ⟨rP x.out⟩, ⟨rP u.out⟩, ⟨bP c.out⟩, ⟨bP m.out⟩, ⟨bP d.out⟩, ⟨bW⟩⟩
    rw [if_pos bx] at H
    have a6 : decide (0 ≤ (rd r 0)) = true := dT bx
    clear bx
    (first | rw [a6] | (simp only [i64_w, i32_w]; rw [a6]) | skip)
    by_cases da : 0 ≤ (rd r 0); rotate_left
    ·rw [if_neg da] at H
     exact absurd H (by simp)
    rw [if_pos da] at H
    have h4 := dT da
    clear da
    by_cases db : (rd r 0) < (al.length : Int); rotate_left
    ·rw [if_neg db] at H
     exact absurd H (by simp)
    rw [if_pos db] at H
    have h5 := dT db
    clear db
    obtain ⟨ez, b0⟩ : ∃ y_ : List Int, y_ = (al.set ((rd r 0) : Int).toNat 0) := ⟨_, rfl⟩
    rw [← b0] at H
    have e2 := mA b0
    clear b0
    have H' := mA H
    clear H
    have cx : 0 ≤ (0 : Int) := (by omega)
    have cy : 0 < (r.length : Int) := ofD
    obtain ⟨e3, f5, bz⟩ := zI (zE B.out).2.2 0 cx cy
    obtain rfl : z = e3 := (by injection f5)
    have h6 : (0 < r.length) = True := eq_true (by omega)
    (try rw [show ((0 : Int)).toNat = 0 from rfl] at bz)
    (try rw [Addr.add_zero'] at bz)
    replace cx := eq_true cx
    replace cy := eq_true cy
    have eA : 0 ≤ ((rd r 0) : Int) := ofD
    have eB : ((rd r 0) : Int) < ((al.length : Int) : Int) := ofD
    obtain ⟨aW, iH, eC, eD, f6, iI, eE⟩ := yV u.out (by omega)
    (first | cases eC | (injection eC with ea_ en_ ec_; (first | subst ea_ | (injection ea_ with ea_; subst ea_)); subst ec_; clear en_))
    have f7 := mA eD
    have iJ := mA eE
    clear eD f6 eE
    obtain ⟨hA, hB⟩ := yH 0 u.out ((rd r 0) : Int) eA eB
    replace eA := eq_true eA
    replace eB := eq_true eB
    have cz := yN u.out ((rd r 0) : Int) 0
    go_wp2_with (first | ((with_reducible refine Zbp (t := 2) (p := 43) rfl ?_); refine Zdi (t := 2) (p := 43) (w1 := (wr.setCell ⟨aW, ((rd r 0) : Int).toNat, none⟩ (.int .i64 0))) ?_; intro eF hw; have hg : wr.grownBy eF (some aW) := (by rw [hw]; exact cz.2); have hp_ : Kd.R (Kd.int .i64) 2 eF w.heap.size (fun k_ => some k_ ≠ (.slice (some z) r.length J : Value).ownBlock ∧ some k_ ≠ (aJ : Value).ownBlock) (.slice (some ⟨aW, 0, none⟩) al.length G) ez := (by rw [hw, e2.out]; exact cz.1); clear cz; replace B := mA (zU (v := (.slice (some ⟨aW, 0, none⟩) al.length G)) (v1 := (.slice (some ⟨aW, 0, none⟩) al.length G)) (ok := (fun k_ => some k_ ≠ (aJ : Value).ownBlock)) (rP B.out) hg (.inl rfl)); replace x := mA (zU (v := (.slice (some ⟨aW, 0, none⟩) al.length G)) (v1 := (.slice (some ⟨aW, 0, none⟩) al.length G)) (ok := (fun k_ => some k_ ≠ (.slice (some z) r.length J : Value).ownBlock)) (rP x.out) hg (.inl rfl)); replace c := mA (Zaq (g := O) (o := .cells #[.int .i64 s, .slice ap A.length ag, .slice ak P.length ah] 69 (0, 0)) (bP c.out) hg (zO u.out c.out (by decide))); replace m := mA (Zaq (g := W) (o := .cells #[.int .i64 0, .int .i64 0, .int .i64 0, .slice none 0 0] 34 (0, 0)) (bP m.out) hg (zO u.out m.out (by decide))); replace d := mA (Zaq (g := E) (o := .cells #[.int .i64 s, .int .i64 0, .int .i64 0, .slice none 0 0] 34 (0, 0)) (bP d.out) hg (zO u.out d.out (by decide))); replace u := mA (hp_); replace HB := mA ((by rw [hw]; exact Zbs (HB.out) f7.out : Below w.heap.size w eF)); clear hg hw hp_))
    go_meet
    case rel => exact ⟨_, (ez), H', ⟨by have := au.out; first | omega | exact Nat.le_refl _⟩, ⟨rP B.out⟩, ⟨rP x.out⟩, ⟨rP u.out⟩, ⟨bP c.out⟩, ⟨bP m.out⟩, ⟨bP d.out⟩, ⟨bW⟩⟩
   case rest =>
    clear cw cZ e0 e1 bf bY bZ
    obtain ⟨kq, aH, HA, aq, B, x, u, c, m, d, HB⟩ := hcut
    have a := (zE u.out).1
    rw [a] at u
    (try simp only [a])
    (try simp only [a] at c)
    (try simp only [a] at m)
    (try simp only [a] at d)
    (try simp only [a] at B)
    (try simp only [a] at x)
    cases kq with
    | zero => exact absurd HA.out (by simp [Zah.j1])
    | succ eG =>
     have H := HA.out
     clear HA
     simp only [Zah.j1] at H
     have H' := mA H
     clear H
     go_wp2
     go_loopg [6, 9] eG (fun kq v6 v9 w' => ∃ (aa : List Int) (aK : List Int) (I : Int) (X : List (List Int)) (T : Value), v9 = .int .i64 I ∧ Zaa (Zah.l1 kq r aa aK I s A P s 0 0 X = some (r1, r2, r3, r4, r5)) ∧ Zaa (kq ≤ eG) ∧ Zaa (Kd.R (Kd.int .i64) 2 w' w.heap.size (fun k_ => some k_ ≠ (v6 : Value).ownBlock ∧ some k_ ≠ ((.slice ai aH.length G) : Value).ownBlock) (.slice (some z) r.length J) r) ∧ Zaa (Kd.R (Kd.int .i64) 2 w' w.heap.size (fun k_ => some k_ ≠ ((.slice (some z) r.length J) : Value).ownBlock ∧ some k_ ≠ ((.slice ai aH.length G) : Value).ownBlock) v6 aa) ∧ Zaa (Kd.R (Kd.int .i64) 2 w' w.heap.size (fun k_ => some k_ ≠ ((.slice (some z) r.length J) : Value).ownBlock ∧ some k_ ≠ (v6 : Value).ownBlock) (.slice ai aH.length G) aK) ∧ Zaa (Kd.S (Kd.slice 2 (Kd.int .i64)) 22 w' w.heap.size (fun k_ => some k_ ≠ ((.slice (some z) r.length J) : Value).ownBlock ∧ some k_ ≠ (v6 : Value).ownBlock ∧ some k_ ≠ ((.slice ai aH.length G) : Value).ownBlock) T X) ∧ Zaa (w'.heap[O]? = some (.cells #[.int .i64 s, (.slice ap A.length ag), (.slice ak P.length ah)] 69 (0, 0))) ∧ Zaa (w'.heap[W]? = some (.cells #[.int .i64 0, .int .i64 0, .int .i64 0, (.slice none 0 0)] 34 (0, 0))) ∧ Zaa (w'.heap[E]? = some (.cells #[.int .i64 s, .int .i64 0, .int .i64 0, T] 34 (0, 0))) ∧ Zaa (Below w.heap.size w w'))
     case atStart => exact ⟨(ba), (aH), (0), (([] : List (List Int))), (.slice none 0 0), (eW), H', ⟨Nat.le_refl _⟩, ⟨by (try simp only [a]); exact rP B.out⟩, ⟨by (try simp only [a]); exact rP x.out⟩, ⟨by (try simp only [a]); exact rP u.out⟩, ⟨by (try simp only [a]); first | exact Kd.S_nil _ _ _ _ _ | exact Kd.N_nil _ _ _ _ _ | exact Kd.V_nil _ _ _ _ _ | exact Kd.Q_nil _ _ _ _ _ | exact xH _ _ _ _ _⟩, ⟨by (try simp only [a]); exact bP c.out⟩, ⟨by (try simp only [a]); exact bP m.out⟩, ⟨by (try simp only [a]); exact bP d.out⟩, ⟨bW⟩⟩
     case round =>
      clear H'
      obtain ⟨aa, aK, I, X, T, rfl, HA, aI, B, x, u, l, c, m, d, HB⟩ := hrel
      have j := (zE u.out).1
      rw [j] at u
      (try simp only [j])
      (try simp only [j] at c)
      (try simp only [j] at m)
      (try simp only [j] at d)
      (try simp only [j] at B)
      (try simp only [j] at x)
      (try simp only [j] at l)
      cases gk with
      | zero => exact absurd HA.out (by simp [Zah.l1])
      | succ k3 =>
       have H := HA.out
       clear HA
       simp only [Zah.l1] at H
       by_cases bA : I < (aa.length : Int); rotate_left
       ·rw [if_neg bA] at H
        have a7 := dF bA
        (try (have b1 := a7; simp only [a, j] at b1))
        clear bA
        by_cases bB : (aa.length : Int) > 16
        ·rw [if_pos bB] at H
         have bn : decide (16 < (aa.length : Int)) = true := dT bB
         (try (have b2 := bn; simp only [a, j] at b2))
         have bo : decide (16 < aa.length) = true := decide_eq_true (by omega)
         (try (have b3 := bo; simp only [a, j] at b3))
         clear bB
         simp only [Option.some.injEq, Prod.mk.injEq] at H
         obtain ⟨rfl, rfl, rfl, rfl, rfl⟩ := H
         obtain ⟨iK, iL, f8⟩ := zJ x.out
         subst f8
         have h7 := ax.out
         have h8 := aw.out
         have h9 := af.out
         have ia := az.out
         have gS : wr.cell? ⟨W, 0, none⟩ = some (.int .i64 0) := bc m 0
         have gT : wr.cell? ⟨W, 1, none⟩ = some (.int .i64 0) := bc m 1
         have gU : wr.cell? ⟨W, 2, none⟩ = some (.int .i64 0) := bc m 2
         have gV : wr.cell? ⟨W, 3, none⟩ = some (.slice none 0 0) := bc m 3
         have gW := Zab m.out 0
         have gX := Zab m.out 1
         have gY := Zab m.out 2
         have gZ := Zab m.out 3
         go_wp2
         refine bodyPost_ret (results_ct rfl _ _ W 34 #[.int .i64 0, .int .i64 0, .int .i64 0, .slice none 0 0] (0, 0) _ rfl (by (with_reducible repeat (first | refine Zaj ?_ _ | refine Zad ?_ | refine Zaf ?_ _)); refine Za3 (cs := #[.int .i64 0, .int .i64 0, .int .i64 0, .slice none 0 0]) ?_ 3 _ rfl; (with_reducible repeat (first | refine Zaj ?_ _ | refine Zad ?_ | refine Zaf ?_ _)); refine Za3 (cs := #[.int .i64 0, .int .i64 0, .int .i64 0, .slice none 0 0]) ?_ 2 _ rfl; (with_reducible repeat (first | refine Zaj ?_ _ | refine Zad ?_ | refine Zaf ?_ _)); refine Za3 (cs := #[.int .i64 0, .int .i64 0, .int .i64 0, .slice none 0 0]) ?_ 1 _ rfl; (with_reducible repeat (first | refine Zaj ?_ _ | refine Zad ?_ | refine Zaf ?_ _)); refine Za3 (cs := #[.int .i64 0, .int .i64 0, .int .i64 0, .slice none 0 0]) ?_ 0 _ rfl; exact bP m.out) Tryd.underlying34 rfl (by kernel_rfl)) rfl ?_
         exact ⟨_, by first | rfl | (simp [errW_none, errW_some] <;> rfl) | (simp only [← bb]; first | rfl | (simp [errW_none, errW_some] <;> rfl)) | (simp [*, errW_none, errW_some] <;> rfl), by first | exact Kd.S_nil _ _ _ _ _ | exact Kd.N_nil _ _ _ _ _ | exact Kd.V_nil _ _ _ _ _ | exact Kd.Q_nil _ _ _ _ _ | exact xH _ _ _ _ _, bW⟩
        rw [if_neg bB] at H
        have bn : decide (16 < (aa.length : Int)) = false := dF bB
        (try (have b2 := bn; simp only [a, j] at b2))
        have bo : decide (16 < aa.length) = false := decide_eq_false (by omega)
        (try (have b3 := bo; simp only [a, j] at b3))
        clear bB
        have H' := mA H
        clear H
        obtain ⟨eH, eI, f9⟩ := zJ x.out
        subst f9
        go_wp2
        go_loopg [14] k3 (fun kq v14 w' => ∃ (U : Int) (ab : Int), v14 = .int .i64 U ∧ Zaa (Zah.l3 kq aa (aa.length : Int) U s A P s 0 ab X = some (r1, r2, r3, r4, r5)) ∧ Zaa (kq ≤ k3) ∧ Zaa (Kd.R (Kd.int .i64) 2 w' w.heap.size (fun _ => True) (.slice eH aa.length eI) aa) ∧ Zaa (Kd.S (Kd.slice 2 (Kd.int .i64)) 22 w' w.heap.size (fun k_ => some k_ ≠ ((.slice eH aa.length eI) : Value).ownBlock) T X) ∧ Zaa (w'.heap[O]? = some (.cells #[.int .i64 s, (.slice ap A.length ag), (.slice ak P.length ah)] 69 (0, 0))) ∧ Zaa (w'.heap[W]? = some (.cells #[.int .i64 0, .int .i64 0, .int .i64 0, (.slice none 0 0)] 34 (0, 0))) ∧ Zaa (w'.heap[E]? = some (.cells #[.int .i64 s, .int .i64 0, .int .i64 ab, T] 34 (0, 0))) ∧ Zaa (Below w.heap.size w w'))
        case atStart => exact ⟨(0), (0), (eW), H', ⟨Nat.le_refl _⟩, ⟨by (try simp only [a]); (try simp only [j]); (with_reducible repeat (first | apply zC | apply zD | apply zA)); exact zB x.out (fun _ hk => trivial)⟩, ⟨by (try simp only [a]); (try simp only [j]); (with_reducible repeat (first | apply yD | apply yE | apply zW)); exact yC l.out (fun _ hk => hk.2.1)⟩, ⟨by (try simp only [a]); (try simp only [j]); exact bP c.out⟩, ⟨by (try simp only [a]); (try simp only [j]); exact bP m.out⟩, ⟨by (try simp only [a]); (try simp only [j]); exact bP d.out⟩, ⟨bW⟩⟩
        case round =>
         clear H' a7 bn bo
         obtain ⟨U, ab, rfl, HA, aG, x, l, c, m, d, HB⟩ := hrel
         cases gk with
         | zero => exact absurd HA.out (by simp [Zah.l3])
         | succ k4 =>
          have H := HA.out
          clear HA
          simp only [Zah.l3] at H
          by_cases bC : U < (aa.length : Int); rotate_left
          ·rw [if_neg bC] at H
           have b4 := dF bC
           (try (have b5 := b4; simp only [a, j] at b5))
           clear bC
           simp only [Option.some.injEq, Prod.mk.injEq] at H
           obtain ⟨rfl, rfl, rfl, rfl, rfl⟩ := H
           have hC := ay.out
           have hD := ae.out
           have hE := az.out
           have hF := af.out
           have ga : wr.cell? ⟨E, 0, none⟩ = some (.int .i64 s) := bc d 0
           have gb : wr.cell? ⟨E, 1, none⟩ = some (.int .i64 0) := bc d 1
           have gc : wr.cell? ⟨E, 2, none⟩ = some (.int .i64 ab) := bc d 2
           have gf : wr.cell? ⟨E, 3, none⟩ = some (T) := bc d 3
           have gg := Zab d.out 0
           have gh := Zab d.out 1
           have gi := Zab d.out 2
           have gj := Zab d.out 3
           have hG := ax.out
           have hH := aw.out
           have gl : wr.cell? ⟨W, 0, none⟩ = some (.int .i64 0) := bc m 0
           have gm : wr.cell? ⟨W, 1, none⟩ = some (.int .i64 0) := bc m 1
           have gn : wr.cell? ⟨W, 2, none⟩ = some (.int .i64 0) := bc m 2
           have gp : wr.cell? ⟨W, 3, none⟩ = some (.slice none 0 0) := bc m 3
           have gq := Zab m.out 0
           have gr := Zab m.out 1
           have gs := Zab m.out 2
           have gu := Zab m.out 3
           obtain ⟨dc, dd, e4⟩ := xK l.out
           subst e4
           go_wp2
           refine bodyPost_ret (results_ct rfl _ _ W 34 #[.int .i64 s, .int .i64 0, .int .i64 ab, .slice dc X.length dd] (0, 0) _ rfl (by (with_reducible repeat (first | refine Zaj ?_ _ | refine Zad ?_ | refine Zaf ?_ _)); refine Za3 (cs := #[.int .i64 s, .int .i64 0, .int .i64 ab, .slice none 0 0]) ?_ 3 _ rfl; (with_reducible repeat (first | refine Zaj ?_ _ | refine Zad ?_ | refine Zaf ?_ _)); refine Za3 (cs := #[.int .i64 s, .int .i64 0, .int .i64 0, .slice none 0 0]) ?_ 2 _ rfl; (with_reducible repeat (first | refine Zaj ?_ _ | refine Zad ?_ | refine Zaf ?_ _)); refine Za3 (cs := #[.int .i64 s, .int .i64 0, .int .i64 0, .slice none 0 0]) ?_ 1 _ rfl; (with_reducible repeat (first | refine Zaj ?_ _ | refine Zad ?_ | refine Zaf ?_ _)); refine Za3 (cs := #[.int .i64 0, .int .i64 0, .int .i64 0, .slice none 0 0]) ?_ 0 _ rfl; exact bP m.out) Tryd.underlying34 rfl (by kernel_rfl)) rfl ?_
           exact ⟨_, by first | rfl | (simp [errW_none, errW_some] <;> rfl) | (simp only [← bb]; first | rfl | (simp [errW_none, errW_some] <;> rfl)) | (simp [*, errW_none, errW_some] <;> rfl), by (with_reducible repeat (first | apply yD | apply yE | apply zW)); exact yC (zZ (p := ⟨W, 3, none⟩) (zZ (p := ⟨W, 2, none⟩) (zZ (p := ⟨W, 1, none⟩) (zZ (p := ⟨W, 0, none⟩) (yZ l.out m.out (by decide)) (fun _ hk => hk.2) (.int .i64 s)) (fun _ hk => hk.2) (.int .i64 0)) (fun _ hk => hk.2) (.int .i64 ab)) (fun _ hk => hk.2) (.slice dc X.length dd)) (fun _ hk => trivial), bW⟩
          rw [if_pos bC] at H
          have b4 := dT bC
          (try (have b5 := b4; simp only [a, j] at b5))
          clear bC
          by_cases de : 0 ≤ U; rotate_left
          ·rw [if_neg de] at H
           exact absurd H (by simp)
          rw [if_pos de] at H
          have ib := dT de
          clear de
          by_cases df : U < (aa.length : Int); rotate_left
          ·rw [if_neg df] at H
           exact absurd H (by simp)
          rw [if_pos df] at H
          have e5 := dT df
          (try (have e6 := e5; simp only [a, j] at e6))
          clear df
          by_cases dg : 0 ≤ (rd aa U); rotate_left
          ·rw [if_neg dg] at H
           exact absurd H (by simp)
          rw [if_pos dg] at H
          have ic := dT dg
          clear dg
          by_cases dh : (rd aa U) < (P.length : Int); rotate_left
          ·rw [if_neg dh] at H
           exact absurd H (by simp)
          rw [if_pos dh] at H
          have e7 := dT dh
          (try (have e8 := e7; simp only [a, j] at e8))
          clear dh
          obtain ⟨e9, bs⟩ : ∃ b_ : Bool, b_ = (rdOf false P (rd aa U)) := ⟨_, rfl⟩
          rw [← bs] at H
          have cq := mA bs
          clear bs
          by_cases b6 : e9 = true; rotate_left
          ·replace b6 := Bool.eq_false_iff.mpr b6
           subst b6
           rw [iF] at H
           have H' := mA H
           clear H
           try go_wp2
           replace x := mA (zA x.out)
           replace l := mA (zW l.out)
           replace c := mA (Zad c.out)
           replace m := mA (Zad m.out)
           replace d := mA (Zad d.out)
           replace HB := mA (Za0 HB.out)
           have aX : 0 ≤ (U : Int) := ofD
           have aY : U < (aa.length : Int) := ofD
           obtain ⟨b7, cA, aM⟩ := zI (zE x.out).2.2 U aX aY
           cases cA
           replace aX := eq_true aX
           replace aY := eq_true aY
           have aZ : 0 ≤ ((rd aa U) : Int) := ofD
           have a0 : (rd aa U) < (P.length : Int) := ofD
           obtain ⟨a8, cC, aj⟩ := yF bT.out (rd aa U) aZ a0
           (try rw [← cq.out] at aj)
           have bg := aj
           cases cC
           replace aj := (HB.out.cell (wB w aj)).trans aj
           replace aZ := eq_true aZ
           replace a0 := eq_true a0
           refine Zcq (n := 8) (S := fun w' => w'.cell? ⟨O, 0, none⟩ = some (.int .i64 s) ∧ w'.cell? ⟨O, 1, none⟩ = some (.slice ap A.length ag) ∧ w'.cell? ⟨O, 2, none⟩ = some (.slice (some a8) P.length ah) ∧ w'.cell? (b7.add (U).toNat) = some (.int .i64 (rd aa U)) ∧ w'.cell? (a8.add ((rd aa U)).toNat) = some (.bool false)) (ds := []) #[false, false, false, false, false, false, false, false] (by kernel_rfl) rfl rfl ⟨bc c 0, bc c 1, bc c 2, aM, (cB HB bg :)⟩ (fun hHeld => ?_); refine Zb7 Zah.tab32 Zah.bits32 (fun HT_ HW_ => ?_)
           generalize wr.drew = w106 at x l c m d HB aM aj hHeld ⊢
           refine Zan (i := 0) (N := some 129) (Zai HT_.out (by kernel_rfl)) ?_
           refine Zan (i := 2) (N := some 131) (Zai HT_.out (by kernel_rfl)) ?_
           refine Zan (i := 3) (N := some 132) (Zai HT_.out (by kernel_rfl)) ?_
           refine Zan (i := 4) (N := some 133) (Zai HT_.out (by kernel_rfl)) ?_
           refine Za8 (i := 1) (N := some 130) (Zaz HT_.out HW_.out (by kernel_rfl)) hHeld ?_
           refine Za8 (i := 5) (N := some 134) (Zaz HT_.out HW_.out (by kernel_rfl)) hHeld ?_
           refine Zan (i := 6) (N := some 135) (Zai HT_.out (by kernel_rfl)) ?_
           refine Za8 (i := 7) (N := some 136) (Zaz HT_.out HW_.out (by kernel_rfl)) hHeld ?_
           refine Zcz (Zct HT_.out (by kernel_rfl)) ?_
           try go_wp2
           go_roundg k4
           case measure => have := au.out; have := aq.out; have := aI.out; have := aG.out; omega
           case rel => exact ⟨(wrap64 (U + 1)), (ab), (eW), H', ⟨by have := au.out; have := aq.out; have := aI.out; have := aG.out; omega⟩, ⟨by (try simp only [a]); (try simp only [j]); exact rP x.out⟩, ⟨by (try simp only [a]); (try simp only [j]); exact sP l.out⟩, ⟨by (try simp only [a]); (try simp only [j]); exact bP c.out⟩, ⟨by (try simp only [a]); (try simp only [j]); exact bP m.out⟩, ⟨by (try simp only [a]); (try simp only [j]); exact bP d.out⟩, ⟨bW⟩⟩
          subst b6
          rw [if_pos rfl] at H
          replace H := bE H
          obtain ⟨b8, di, H⟩ := H
          have gv := mA di
          clear di
          have H' := mA H
          clear H
          try go_wp2
          replace x := mA (zA x.out)
          replace l := mA (zW l.out)
          replace c := mA (Zad c.out)
          replace m := mA (Zad m.out)
          replace d := mA (Zad d.out)
          replace HB := mA (Za0 HB.out)
          have aX : 0 ≤ (U : Int) := ofD
          have aY : U < (aa.length : Int) := ofD
          obtain ⟨b7, cA, aM⟩ := zI (zE x.out).2.2 U aX aY
          cases cA
          replace aX := eq_true aX
          replace aY := eq_true aY
          have aZ : 0 ≤ ((rd aa U) : Int) := ofD
          have a0 : (rd aa U) < (P.length : Int) := ofD
          obtain ⟨a8, cC, aj⟩ := yF bT.out (rd aa U) aZ a0
          (try rw [← cq.out] at aj)
          have bg := aj
          cases cC
          replace aj := (HB.out.cell (wB w aj)).trans aj
          replace aZ := eq_true aZ
          replace a0 := eq_true a0
          refine Zcq (n := 8) (S := fun w' => w'.cell? ⟨O, 0, none⟩ = some (.int .i64 s) ∧ w'.cell? ⟨O, 1, none⟩ = some (.slice ap A.length ag) ∧ w'.cell? ⟨O, 2, none⟩ = some (.slice (some a8) P.length ah) ∧ w'.cell? (b7.add (U).toNat) = some (.int .i64 (rd aa U)) ∧ w'.cell? (a8.add ((rd aa U)).toNat) = some (.bool true)) (ds := []) #[false, false, false, false, false, false, false, false] (by kernel_rfl) rfl rfl ⟨bc c 0, bc c 1, bc c 2, aM, (cB HB bg :)⟩ (fun hHeld => ?_); refine Zb7 Zah.tab32 Zah.bits32 (fun HT_ HW_ => ?_)
          generalize wr.drew = gw at x l c m d HB aM aj hHeld ⊢
          refine Zan (i := 0) (N := some 129) (Zai HT_.out (by kernel_rfl)) ?_
          refine Zan (i := 2) (N := some 131) (Zai HT_.out (by kernel_rfl)) ?_
          refine Zan (i := 3) (N := some 132) (Zai HT_.out (by kernel_rfl)) ?_
          refine Zan (i := 4) (N := some 133) (Zai HT_.out (by kernel_rfl)) ?_
          refine Za8 (i := 1) (N := some 130) (Zaz HT_.out HW_.out (by kernel_rfl)) hHeld ?_
          refine Za8 (i := 5) (N := some 134) (Zaz HT_.out HW_.out (by kernel_rfl)) hHeld ?_
          refine Zan (i := 6) (N := some 135) (Zai HT_.out (by kernel_rfl)) ?_
          refine Za8 (i := 7) (N := some 136) (Zaz HT_.out HW_.out (by kernel_rfl)) hHeld ?_
          refine Zcz (Zct HT_.out (by kernel_rfl)) ?_
          try go_wp2
          replace x := mA (zA x.out)
          replace l := mA (zW l.out)
          replace c := mA (Zad c.out)
          replace m := mA (Zad m.out)
          replace d := mA (Zad d.out)
          replace HB := mA (Za0 HB.out)
          refine Zcq (n := 7) (S := fun w' => w'.cell? ⟨E, 0, none⟩ = some (.int .i64 s) ∧ w'.cell? ⟨E, 1, none⟩ = some (.int .i64 0) ∧ w'.cell? ⟨E, 2, none⟩ = some (.int .i64 ab) ∧ w'.cell? ⟨E, 3, none⟩ = some (T)) (ds := [6]) #[false, false, false, false, false, false, false] (by kernel_rfl) rfl rfl ⟨bc d 0, bc d 1, bc d 2, bc d 3⟩ (fun hHeld => ?_)
          generalize gw.drew = w104 at x l c m d HB hHeld ⊢
          refine Zan (i := 0) (N := some 137) (by kernel_rfl) ?_
          refine Zan (i := 2) (N := some 139) (by kernel_rfl) ?_
          refine Za8 (i := 1) (N := some 138) (by kernel_rfl) hHeld ?_
          refine one_ (i := 3) (N := some 140) #[true, true, true, true, false, false, false] rfl rfl (by kernel_rfl) (by decide) (fun K hK => ?_)
          refine Zb6 Tryd.func70 (by kernel_rfl) rfl #[.int .i64 U] (by rfl) rfl rfl (by (try simp only [List.map_toArray, List.map_cons, List.map_nil]); first | done | rfl | (simp only [List.length_drop, List.length_take]; rfl)) ?_
          with_reducible refine (Zda.calls U b8 _ gv.out).mono ?_
          rintro e w' ⟨rfl, ⟨nd, rfl⟩⟩
          refine ⟨_, rfl, ?_⟩
          refine hK.out _ _ ⟨bc d 0, bc d 1, bc d 2, bc d 3⟩ (fun hHeld => ?_)
          clear hK K
          refine putS 140 ?_
          refine Zan (i := 4) (N := some 141) (by kernel_rfl) ?_
          refine Zan (i := 5) (N := some 142) (by kernel_rfl) ?_
          refine last_ (i := 6) (N := none) #[true, true, true, true, true, true, true] rfl rfl (by kernel_rfl) (by decide) (fun K hK => ?_)
          have ie : w104.cell? ⟨E, 2, none⟩ = some (.int .i64 ab) := bc d 2
          have hI := Zab d.out 2
          have gx := ae.out
          have gy := af.out
          have gz := ay.out
          have gA := az.out
          refine skip_ (w1 := ?_) (by rfl) rfl ?_ ?_
          rotate_left
          ·go_simp
           rfl
          refine hK.out _ _ ?_
          clear hK K
          refine Zcz (by kernel_rfl) ?_
          try go_wp2
          go_roundg k4
          case measure => have := au.out; have := aq.out; have := aI.out; have := aG.out; omega
          case rel => exact ⟨(wrap64 (U + 1)), (Go.bits .or .i64 ab b8), (eW), H', ⟨by have := au.out; have := aq.out; have := aI.out; have := aG.out; omega⟩, ⟨by (try simp only [a]); (try simp only [j]); (with_reducible repeat (first | apply zC | apply zD | apply zA)); exact zB (zQ (p := ⟨E, 2, none⟩) (yA x.out d.out (by decide)) (fun _ hk => hk.2) (.int .i64 (Go.bits .or .i64 ab b8))) (fun _ hk => trivial)⟩, ⟨by (try simp only [a]); (try simp only [j]); (with_reducible repeat (first | apply yD | apply yE | apply zW)); exact yC (zZ (p := ⟨E, 2, none⟩) (yZ l.out d.out (by decide)) (fun _ hk => hk.2) (.int .i64 (Go.bits .or .i64 ab b8))) (fun _ hk => hk.1)⟩, ⟨by (try simp only [a]); (try simp only [j]); (with_reducible repeat (first | refine Zaj ?_ _ | refine Zad ?_ | refine Zaf ?_ _)); refine Za4 ?_ ae.out _; exact bP c.out⟩, ⟨by (try simp only [a]); (try simp only [j]); (with_reducible repeat (first | refine Zaj ?_ _ | refine Zad ?_ | refine Zaf ?_ _)); refine Za4 ?_ af.out _; exact bP m.out⟩, ⟨by (try simp only [a]); (try simp only [j]); (with_reducible repeat (first | refine Zaj ?_ _ | refine Zad ?_ | refine Zaf ?_ _)); refine Za3 (cs := #[.int .i64 s, .int .i64 0, .int .i64 ab, T]) ?_ 2 _ rfl; exact bP d.out⟩, ⟨bW⟩⟩
       rw [if_pos bA] at H
       have a7 := dT bA
       (try (have b1 := a7; simp only [a, j] at b1))
       clear bA
       obtain ⟨eJ, b9⟩ : ∃ y_ : List Int, y_ = (([] : List Int)) := ⟨_, rfl⟩
       replace H : (Zah.l2 k3 r aa aK I eJ 0 s A P s 0 0 X) = some (r1, r2, r3, r4, r5) := by rw [b9]; with_reducible exact H
       have dj := mA b9
       clear b9
       have H' := mA H
       clear H
       obtain ⟨iM, iN, gB⟩ := zJ x.out
       subst gB
       go_wp2_with (first | ((with_reducible refine Zap (N := 50) rfl ?_); refine yT (Kd.int .i64) _ 2 ?hg (N := 50) ?hd (xs := ([] : List Int)) (inner := []) (ok := fun _ => True) (okp := fun _ => True) ?hr ?hp (fun _ hk => hk) trivial (Below.refl _ _) (Nat.le_refl _) (by simp) ?_; (case hd => rfl); (case hg => rfl); (case hr => first | (go_simp; done) | (go_simp; rfl)); (case hp => exact (Reps.none _ _)); intro iO i1 aR hb hg_ hnew_; clear hg_ hnew_; (first | rw [← dj.out] at aR | (simp only [Int.reduceToNat] at aR; rw [← dj.out] at aR)); replace l := mA (xB (sP l.out) (zH aR) hb); have fa := mA (zP (zS (zS (zS aR (zG (rP B.out))) (zG (rP x.out))) (zG (rP u.out))) (Zag (bW))); replace B := mA (zR (rP B.out) (zH aR) hb); replace x := mA (zR (rP x.out) (zH aR) hb); replace u := mA (zR (rP u.out) (zH aR) hb); replace c := mA (blkB c.out hb); replace m := mA (blkB m.out hb); replace d := mA (blkB d.out hb); replace HB := mA (Zac (bW) hb); clear hb aR))
       go_loopg [6, 10, 11] k3 (fun kq v6 v10 v11 w' => ∃ (y : List Int) (D : List Int) (am : List Int) (Y : Int), v11 = .int .i64 Y ∧ Zaa (Zah.l2 kq r y D I am Y s A P s 0 0 X = some (r1, r2, r3, r4, r5)) ∧ Zaa (kq ≤ k3) ∧ Zaa (Kd.R (Kd.int .i64) 2 w' w.heap.size (fun k_ => some k_ ≠ (v6 : Value).ownBlock ∧ some k_ ≠ ((.slice ai aK.length G) : Value).ownBlock ∧ some k_ ≠ (v10 : Value).ownBlock) (.slice (some z) r.length J) r) ∧ Zaa (Kd.R (Kd.int .i64) 2 w' w.heap.size (fun k_ => some k_ ≠ ((.slice (some z) r.length J) : Value).ownBlock ∧ some k_ ≠ ((.slice ai aK.length G) : Value).ownBlock ∧ some k_ ≠ (v10 : Value).ownBlock) v6 y) ∧ Zaa (Kd.R (Kd.int .i64) 2 w' w.heap.size (fun k_ => some k_ ≠ ((.slice (some z) r.length J) : Value).ownBlock ∧ some k_ ≠ (v6 : Value).ownBlock ∧ some k_ ≠ (v10 : Value).ownBlock) (.slice ai aK.length G) D) ∧ Zaa (Kd.R (Kd.int .i64) 2 w' w.heap.size (fun k_ => some k_ ≠ ((.slice (some z) r.length J) : Value).ownBlock ∧ some k_ ≠ (v6 : Value).ownBlock ∧ some k_ ≠ ((.slice ai aK.length G) : Value).ownBlock) v10 am) ∧ Zaa (Kd.S (Kd.slice 2 (Kd.int .i64)) 22 w' w.heap.size (fun k_ => some k_ ≠ ((.slice (some z) r.length J) : Value).ownBlock ∧ some k_ ≠ (v6 : Value).ownBlock ∧ some k_ ≠ ((.slice ai aK.length G) : Value).ownBlock ∧ some k_ ≠ (v10 : Value).ownBlock) T X) ∧ Zaa (w'.heap[O]? = some (.cells #[.int .i64 s, (.slice ap A.length ag), (.slice ak P.length ah)] 69 (0, 0))) ∧ Zaa (w'.heap[W]? = some (.cells #[.int .i64 0, .int .i64 0, .int .i64 0, (.slice none 0 0)] 34 (0, 0))) ∧ Zaa (w'.heap[E]? = some (.cells #[.int .i64 s, .int .i64 0, .int .i64 0, T] 34 (0, 0))) ∧ Zaa (Below w.heap.size w w'))
       case atStart => exact ⟨(aa), (aK), (eJ), (0), (eW), H', ⟨Nat.le_refl _⟩, ⟨by (try simp only [a]); (try simp only [j]); (with_reducible repeat (first | apply zC | apply zD | apply zA)); exact zB B.out (fun _ hk => ⟨hk.1.1, ⟨hk.1.2, hk.2⟩⟩)⟩, ⟨by (try simp only [a]); (try simp only [j]); (with_reducible repeat (first | apply zC | apply zD | apply zA)); exact zB x.out (fun _ hk => ⟨hk.1.1, ⟨hk.1.2, hk.2⟩⟩)⟩, ⟨by (try simp only [a]); (try simp only [j]); (with_reducible repeat (first | apply zC | apply zD | apply zA)); exact zB u.out (fun _ hk => ⟨hk.1.1, ⟨hk.1.2, hk.2⟩⟩)⟩, ⟨by (try simp only [a]); (try simp only [j]); (with_reducible repeat (first | apply zC | apply zD | apply zA)); exact zB fa.out (fun _ hk => ⟨hk.1.1.2, ⟨hk.1.2, hk.2⟩⟩)⟩, ⟨by (try simp only [a]); (try simp only [j]); (with_reducible repeat (first | apply yD | apply yE | apply zW)); exact yC l.out (fun _ hk => ⟨hk.1.1, ⟨hk.1.2.1, ⟨hk.1.2.2, hk.2⟩⟩⟩)⟩, ⟨by (try simp only [a]); (try simp only [j]); exact bP c.out⟩, ⟨by (try simp only [a]); (try simp only [j]); exact bP m.out⟩, ⟨by (try simp only [a]); (try simp only [j]); exact bP d.out⟩, ⟨bW⟩⟩
       case round =>
        clear H' a7
        obtain ⟨y, D, am, Y, rfl, HA, aG, B, x, u, L, l, c, m, d, HB⟩ := hrel
        have q := (zE u.out).1
        rw [q] at u
        (try simp only [q])
        (try simp only [q] at c)
        (try simp only [q] at m)
        (try simp only [q] at d)
        (try simp only [q] at B)
        (try simp only [q] at x)
        (try simp only [q] at L)
        (try simp only [q] at l)
        cases gk with
        | zero => exact absurd HA.out (by simp [Zah.l2])
        | succ k4 =>
         have H := HA.out
         clear HA
         simp only [Zah.l2] at H
         by_cases bD : Y < s; rotate_left
         ·rw [if_neg bD] at H
          have dk := dF bD
          clear bD
          by_cases dl : X.length < 5864062014805; rotate_left
          ·rw [if_neg dl] at H
           exact absurd H (by simp)
          rw [if_pos dl] at H
          have fb := mA dl
          clear dl
          obtain ⟨bh, ca⟩ : ∃ y_ : List (List Int), y_ = (X ++ [am]) := ⟨_, rfl⟩
          rw [← ca] at H
          have fc := mA ca
          clear ca
          have H' := mA H
          clear H
          have ig := aw.out
          have ih := ax.out
          have ii := ae.out
          have ij := ay.out
          have g0 : wr.cell? ⟨O, 0, none⟩ = some (.int .i64 s) := bc c 0
          have g1 : wr.cell? ⟨O, 1, none⟩ = some (.slice ap A.length ag) := bc c 1
          have g2 : wr.cell? ⟨O, 2, none⟩ = some (.slice ak P.length ah) := bc c 2
          have g3 := Zab c.out 0
          have g4 := Zab c.out 1
          have g5 := Zab c.out 2
          have ik := az.out
          have il := af.out
          have g6 : wr.cell? ⟨E, 0, none⟩ = some (.int .i64 s) := bc d 0
          have g7 : wr.cell? ⟨E, 1, none⟩ = some (.int .i64 0) := bc d 1
          have g8 : wr.cell? ⟨E, 2, none⟩ = some (.int .i64 0) := bc d 2
          have g9 : wr.cell? ⟨E, 3, none⟩ = some (T) := bc d 3
          have ha := Zab d.out 0
          have hc := Zab d.out 1
          have he := Zab d.out 2
          have hf := Zab d.out 3
          obtain ⟨eK, eL, gC⟩ := zJ L.out
          subst gC
          go_wp2_with (first | ((with_reducible refine Zbl (b := .append) (xs := #[.tmp 113, .tmp 115]) rfl ?_); at_builtin; refine Kd.S_append (Kd.slice 2 (Kd.int .i64)) (w0 := w) w.heap.size rfl (.tmp 113) (.tmp 115) 25 22 (.slice none 0 0) 24 rfl Tryd.underlying25 info22 rfl (by decide) (by omega) T X am [.slice eK am.length eL] (fun k_ => some k_ ≠ (.slice (some z) r.length J : Value).ownBlock ∧ some k_ ≠ (u6 : Value).ownBlock ∧ some k_ ≠ (.slice ai D.length G : Value).ownBlock) (fun k_ => some k_ = (.slice eK am.length eL : Value).ownBlock) rfl rfl ?aP (fun k_ hk_ => ((zB (ok' := fun k_ => ((fun k_ => some k_ ≠ (.slice (some z) r.length J : Value).ownBlock ∧ some k_ ≠ (u6 : Value).ownBlock ∧ some k_ ≠ (.slice ai D.length G : Value).ownBlock)) k_ ∧ some k_ ≠ (T : Value).ownBlock) (yY (L.out) (xJ l.out) (by decide)) (fun k_ hk => ⟨⟨hk.1.1, ⟨hk.1.2.1, hk.1.2.2⟩⟩, hk.2⟩))).1 k_ hk_.symm) ?aF ?aO ?aB ?aS ?aL ?_; (case aP => exact Kd.M_row (zB (Kd.R_tight rfl (zB (ok' := fun k_ => ((fun k_ => some k_ ≠ (.slice (some z) r.length J : Value).ownBlock ∧ some k_ ≠ (u6 : Value).ownBlock ∧ some k_ ≠ (.slice ai D.length G : Value).ownBlock)) k_ ∧ some k_ ≠ (T : Value).ownBlock) (yY (L.out) (xJ l.out) (by decide)) (fun k_ hk => ⟨⟨hk.1.1, ⟨hk.1.2.1, hk.1.2.2⟩⟩, hk.2⟩))) (fun _ h_ => h_))); (case aB => exact (bW)); (case aF => exact (fun k_ hk => ⟨zT (zG (rP B.out)) k_ hk, zT (zG (rP x.out)) k_ hk, zT (zG (rP u.out)) k_ hk⟩)); (case aO => exact (by (with_reducible repeat (first | apply yD | apply yE | apply zW)); exact yC l.out (fun k_ hk => ⟨⟨hk.1, ⟨hk.2.1, hk.2.2.1⟩⟩, fun e_ => hk.2.2.2 e_⟩))); (case aS => exact (Zag (bW))); (case aL => have := fb.out; omega); intro iP i2 ho hb hg hat; rw [← fc.out] at ho; replace B := mA (yM (rP B.out) (xJ (sP l.out)) (by decide) hg); replace x := mA (yM (rP x.out) (xJ (sP l.out)) (by decide) hg); replace u := mA (yM (rP u.out) (xJ (sP l.out)) (by decide) hg); replace c := mA (Zaq (g := O) (o := .cells #[.int .i64 s, .slice ap A.length ag, .slice ak P.length ah] 69 (0, 0)) (bP c.out) hg (Kd.S_ne l.out c.out (by decide))); replace m := mA (Zaq (g := W) (o := .cells #[.int .i64 0, .int .i64 0, .int .i64 0, .slice none 0 0] 34 (0, 0)) (bP m.out) hg (Kd.S_ne l.out m.out (by decide))); replace d := mA (Zaq (g := E) (o := .cells #[.int .i64 s, .int .i64 0, .int .i64 0, T] 34 (0, 0)) (bP d.out) hg (Kd.S_ne l.out d.out (by decide))); replace HB := mA (hb); have dm := mA (ho); clear l L ho hb hg hat; obtain ⟨bu, bv, gD⟩ := xK dm.out; subst gD; obtain ⟨hh, hj, hl, hm⟩ := Zbi d.out; obtain ⟨hn, hq, hs, ht⟩ := frz4 d.out))
          (try simp only [← j, ← q])
          go_roundg k4
          case measure => have := au.out; have := aq.out; have := aI.out; have := aG.out; omega
          case rel => exact ⟨(y), (D), (wrap64 (I + 1)), (bh), (.slice bu bh.length bv), (eW), H', ⟨by have := au.out; have := aq.out; have := aI.out; have := aG.out; omega⟩, ⟨by (try simp only [a]); (try simp only [j]); (try simp only [q]); (with_reducible repeat (first | apply zC | apply zD | apply zA)); exact zB (zQ (p := ⟨E, 3, none⟩) (yA B.out d.out (by decide)) (fun _ hk => hk.2) (.slice bu bh.length bv)) (fun _ hk => ⟨hk.1.1, hk.1.2.1⟩)⟩, ⟨by (try simp only [a]); (try simp only [j]); (try simp only [q]); (with_reducible repeat (first | apply zC | apply zD | apply zA)); exact zB (zQ (p := ⟨E, 3, none⟩) (yA x.out d.out (by decide)) (fun _ hk => hk.2) (.slice bu bh.length bv)) (fun _ hk => ⟨hk.1.1, hk.1.2.1⟩)⟩, ⟨by (try simp only [a]); (try simp only [j]); (try simp only [q]); (with_reducible repeat (first | apply zC | apply zD | apply zA)); exact zB (zQ (p := ⟨E, 3, none⟩) (yA u.out d.out (by decide)) (fun _ hk => hk.2) (.slice bu bh.length bv)) (fun _ hk => ⟨hk.1.1, hk.1.2.1⟩)⟩, ⟨by (try simp only [a]); (try simp only [j]); (try simp only [q]); (with_reducible repeat (first | apply yD | apply yE | apply zW)); exact yC (zZ (p := ⟨E, 3, none⟩) (yZ dm.out d.out (by decide)) (fun _ hk => hk.2) (.slice bu bh.length bv)) (fun _ hk => ⟨hk.1.1, ⟨hk.1.2.1, hk.1.2.2⟩⟩)⟩, ⟨by (try simp only [a]); (try simp only [j]); (try simp only [q]); (with_reducible repeat (first | refine Zaj ?_ _ | refine Zad ?_ | refine Zaf ?_ _)); refine Za4 ?_ ae.out _; exact bP c.out⟩, ⟨by (try simp only [a]); (try simp only [j]); (try simp only [q]); (with_reducible repeat (first | refine Zaj ?_ _ | refine Zad ?_ | refine Zaf ?_ _)); refine Za4 ?_ af.out _; exact bP m.out⟩, ⟨by (try simp only [a]); (try simp only [j]); (try simp only [q]); (with_reducible repeat (first | refine Zaj ?_ _ | refine Zad ?_ | refine Zaf ?_ _)); refine Za3 (cs := #[.int .i64 s, .int .i64 0, .int .i64 0, T]) ?_ 3 _ rfl; exact bP d.out⟩, ⟨bW⟩⟩
         rw [if_pos bD] at H
         have dk := dT bD
         clear bD
         by_cases dn : 0 ≤ I; rotate_left
         ·rw [if_neg dn] at H
          exact absurd H (by simp)
         rw [if_pos dn] at H
         have fd := dT dn
         clear dn
         by_cases dp : I < (y.length : Int); rotate_left
         ·rw [if_neg dp] at H
          exact absurd H (by simp)
         rw [if_pos dp] at H
         have dq := dT dp
         (try (have fe := dq; simp only [a, j, q] at fe))
         clear dp
         by_cases dr : 0 ≤ (rd y I); rotate_left
         ·rw [if_neg dr] at H
          exact absurd H (by simp)
         rw [if_pos dr] at H
         have ff := dT dr
         clear dr
         by_cases dt : (rd y I) < (A.length : Int); rotate_left
         ·rw [if_neg dt] at H
          exact absurd H (by simp)
         rw [if_pos dt] at H
         have du := dT dt
         (try (have fg := du; simp only [a, j, q] at fg))
         clear dt
         by_cases dv : 0 ≤ Y; rotate_left
         ·rw [if_neg dv] at H
          exact absurd H (by simp)
         rw [if_pos dv] at H
         have fh := dT dv
         clear dv
         by_cases dw : Y < ((Zae A (rd y I)).length : Int); rotate_left
         ·rw [if_neg dw] at H
          exact absurd H (by simp)
         rw [if_pos dw] at H
         have dx := dT dw
         (try (have fi := dx; simp only [a, j, q] at fi))
         clear dw
         replace H := bE H
         obtain ⟨ac, eM, H⟩ := H
         have hJ := mA eM
         clear eM
         have cD := mA H
         clear H
         have im := aw.out
         have io := ax.out
         have ip := ae.out
         have iq := ay.out
         have ec : wr.cell? ⟨O, 0, none⟩ = some (.int .i64 s) := bc c 0
         have ed : wr.cell? ⟨O, 1, none⟩ = some (.slice ap A.length ag) := bc c 1
         have ee : wr.cell? ⟨O, 2, none⟩ = some (.slice ak P.length ah) := bc c 2
         have ef := Zab c.out 0
         have eg := Zab c.out 1
         have eh := Zab c.out 2
         try go_wp2
         replace B := mA (zA B.out)
         replace x := mA (zA x.out)
         replace u := mA (zA u.out)
         replace L := mA (zA L.out)
         replace l := mA (zW l.out)
         replace c := mA (Zad c.out)
         replace m := mA (Zad m.out)
         replace d := mA (Zad d.out)
         replace HB := mA (Za0 HB.out)
         obtain ⟨iQ, ao, eN⟩ := zJ x.out
         (first | subst eN | (injection eN with fP hL fQ; have hM := fP.symm; have hN := fQ.symm; clear fP hL fQ; subst hM; subst hN))
         have cb : 0 ≤ (I : Int) := ofD
         have cc : I < (y.length : Int) := ofD
         obtain ⟨ad, gE, bi⟩ := zI (zE x.out).2.2 I cb cc
         cases gE
         replace cb := eq_true cb
         replace cc := eq_true cc
         have cd : 0 ≤ ((rd y I) : Int) := ofD
         have ce : (rd y I) < (A.length : Int) := ofD
         obtain ⟨ar, eO, cr, gF, av, bF, bG⟩ := Zch bS.out (rd y I) cd ce
         have bH := av
         cases gF
         replace av := (HB.out.cell (wB w av)).trans av
         have bI := mA bG
         have hu := mA bF
         clear bG bF
         replace cd := eq_true cd
         replace ce := eq_true ce
         have cf : 0 ≤ (Y : Int) := ofD
         have cg : Y < ((Zae A (rd y I)).length : Int) := ofD
         obtain ⟨dy, gG, aD⟩ := zI bI.out Y cf cg
         have bJ := aD
         cases gG
         replace aD := (HB.out.cell (wB w aD)).trans aD
         replace cf := eq_true cf
         replace cg := eq_true cg
         refine Zcq (n := 14) (S := fun w' => w'.cell? ⟨O, 0, none⟩ = some (.int .i64 s) ∧ w'.cell? ⟨O, 1, none⟩ = some (.slice (some ar) A.length ag) ∧ w'.cell? ⟨O, 2, none⟩ = some (.slice ak P.length ah) ∧ w'.cell? (ad.add (I).toNat) = some (.int .i64 (rd y I)) ∧ w'.cell? (ar.add ((rd y I)).toNat) = some (.slice (some dy) (Zae A (rd y I)).length cr) ∧ w'.cell? (dy.add (Y).toNat) = some (.int .i64 (rd (Zae A (rd y I)) Y))) (ds := []) #[false, false, false, false, false, false, false, false, false, false, false, false, false, false] (by kernel_rfl) rfl rfl ⟨bc c 0, bc c 1, bc c 2, bi, (cB HB bH :), (cB HB bJ :)⟩ (fun hHeld => ?_); refine Zb7 Zah.tab18 Zah.bits18 (fun HT_ HW_ => ?_)
         generalize wr.drew = w53 at B x u L l c m d HB bI bi av aD hHeld ⊢
         refine Zan (i := 0) (N := some 57) (Zai HT_.out (by kernel_rfl)) ?_
         refine Zan (i := 1) (N := some 58) (Zai HT_.out (by kernel_rfl)) ?_
         refine Zan (i := 3) (N := some 60) (Zai HT_.out (by kernel_rfl)) ?_
         refine Zan (i := 4) (N := some 61) (Zai HT_.out (by kernel_rfl)) ?_
         refine Zan (i := 5) (N := some 62) (Zai HT_.out (by kernel_rfl)) ?_
         refine Zan (i := 9) (N := some 66) (Zai HT_.out (by kernel_rfl)) ?_
         refine Za8 (i := 2) (N := some 59) (Zaz HT_.out HW_.out (by kernel_rfl)) hHeld ?_
         refine Za8 (i := 6) (N := some 63) (Zaz HT_.out HW_.out (by kernel_rfl)) hHeld ?_
         refine Zan (i := 7) (N := some 64) (Zai HT_.out (by kernel_rfl)) ?_
         refine Za8 (i := 8) (N := some 65) (Zaz HT_.out HW_.out (by kernel_rfl)) hHeld ?_
         refine Zan (i := 10) (N := some 67) (Zai HT_.out (by kernel_rfl)) ?_
         refine Za8 (i := 11) (N := some 68) (Zaz HT_.out HW_.out (by kernel_rfl)) hHeld ?_
         refine one_ (i := 12) (N := some 69) #[true, true, true, true, true, true, true, true, true, true, true, true, true, false] rfl rfl (Za9 HT_.out (by kernel_rfl)) (by decide) (fun K hK => ?_)
         refine Zb6 Tryd.func69 (by kernel_rfl) rfl #[.slice (some z) r.length J, .int .i64 (rd (Zae A (rd y I)) Y)] (by rfl) rfl rfl (by (try simp only [List.map_toArray, List.map_cons, List.map_nil]); first | done | rfl | (simp only [List.length_drop, List.length_take]; rfl)) ?_
         with_reducible refine (Zbf.calls _ _ r (rd (Zae A (rd y I)) Y) ac _ ?side1 ?side2 hJ.out).mono ?_
         (case side1 => exact cP ((zE B.out).2.2))
         (case side2 => exact (zE B.out).2.1)
         rintro e w' ⟨rfl, ⟨nd, rfl⟩⟩
         refine ⟨_, rfl, ?_⟩
         refine hK.out _ _ ⟨bc c 0, bc c 1, bc c 2, hHeld.2.2.2.1, (cB HB bH :), (cB HB bJ :)⟩ (fun hHeld => ?_)
         clear hK K
         refine putS 69 ?_
         refine Zan (i := 13) (N := some 12) (Zai HT_.out (by kernel_rfl)) ?_
         refine Zcz (Zct HT_.out (by kernel_rfl)) ?_
         go_upto_region 19 with (fail)
         go_cut [77] (fun v77 wc => ∃ (kq : Nat) (a9 : Bool), v77 = .bool a9 ∧ Zaa (Zah.j4 kq r y D I am Y ac a9 s A P s 0 0 X = some (r1, r2, r3, r4, r5)) ∧ Zaa (kq ≤ k4) ∧ Zaa (Kd.R (Kd.int .i64) 2 wc w.heap.size (fun k_ => some k_ ≠ ((.slice (some ad) y.length ao) : Value).ownBlock ∧ some k_ ≠ ((.slice ai D.length G) : Value).ownBlock ∧ some k_ ≠ (u10 : Value).ownBlock) (.slice (some z) r.length J) r) ∧ Zaa (Kd.R (Kd.int .i64) 2 wc w.heap.size (fun k_ => some k_ ≠ ((.slice (some z) r.length J) : Value).ownBlock ∧ some k_ ≠ ((.slice ai D.length G) : Value).ownBlock ∧ some k_ ≠ (u10 : Value).ownBlock) (.slice (some ad) y.length ao) y) ∧ Zaa (Kd.R (Kd.int .i64) 2 wc w.heap.size (fun k_ => some k_ ≠ ((.slice (some z) r.length J) : Value).ownBlock ∧ some k_ ≠ ((.slice (some ad) y.length ao) : Value).ownBlock ∧ some k_ ≠ (u10 : Value).ownBlock) (.slice ai D.length G) D) ∧ Zaa (Kd.R (Kd.int .i64) 2 wc w.heap.size (fun k_ => some k_ ≠ ((.slice (some z) r.length J) : Value).ownBlock ∧ some k_ ≠ ((.slice (some ad) y.length ao) : Value).ownBlock ∧ some k_ ≠ ((.slice ai D.length G) : Value).ownBlock) u10 am) ∧ Zaa (Kd.S (Kd.slice 2 (Kd.int .i64)) 22 wc w.heap.size (fun k_ => some k_ ≠ ((.slice (some z) r.length J) : Value).ownBlock ∧ some k_ ≠ ((.slice (some ad) y.length ao) : Value).ownBlock ∧ some k_ ≠ ((.slice ai D.length G) : Value).ownBlock ∧ some k_ ≠ (u10 : Value).ownBlock) T X) ∧ Zaa (wc.heap[O]? = some (.cells #[.int .i64 s, (.slice (some ar) A.length ag), (.slice ak P.length ah)] 69 (0, 0))) ∧ Zaa (wc.heap[W]? = some (.cells #[.int .i64 0, .int .i64 0, .int .i64 0, (.slice none 0 0)] 34 (0, 0))) ∧ Zaa (wc.heap[E]? = some (.cells #[.int .i64 s, .int .i64 0, .int .i64 0, T] 34 (0, 0))) ∧ Zaa (Below w.heap.size w wc))
         case first =>
          have H := cD.out
          clear cD
          by_cases dz : 0 < (r.length : Int); rotate_left
          ·rw [if_neg dz] at H
           exact absurd H (by simp)
          rw [if_pos dz] at H
          have ch := dT dz
          (try (have fj := ch; simp only [a, j, q] at fj))
          have fk : decide (0 < r.length) = true := decide_eq_true (by omega)
          (try (have fl := fk; simp only [a, j, q] at fl))
          clear dz
          (first | rw [ch] | (simp only [i64_w, i32_w]; rw [ch]) | skip)
          by_cases bK : (rd r 0) < 0
          ·rw [if_pos bK] at H
           have fm := dT bK
           clear bK
           have H' := mA H
           clear H
           have a1 : 0 ≤ (0 : Int) := (by omega)
           have a2 : 0 < (r.length : Int) := ofD
           obtain ⟨ci, cE, aN⟩ := zI (zE B.out).2.2 0 a1 a2
           obtain rfl : z = ci := (by injection cE)
           have fn : (0 < r.length) = True := eq_true (by omega)
           (try rw [show ((0 : Int)).toNat = 0 from rfl] at aN)
           (try rw [Addr.add_zero'] at aN)
           replace a1 := eq_true a1
           replace a2 := eq_true a2
           go_wp2
           go_meet
           case rel => exact ⟨_, (true), (eW), H', ⟨by have := au.out; have := aq.out; have := aI.out; have := aG.out; first | omega | exact Nat.le_refl _⟩, ⟨by (try simp only [a]); (try simp only [j]); (try simp only [q]); exact rP B.out⟩, ⟨by (try simp only [a]); (try simp only [j]); (try simp only [q]); exact rP x.out⟩, ⟨by (try simp only [a]); (try simp only [j]); (try simp only [q]); exact rP u.out⟩, ⟨by (try simp only [a]); (try simp only [j]); (try simp only [q]); exact rP L.out⟩, ⟨by (try simp only [a]); (try simp only [j]); (try simp only [q]); exact sP l.out⟩, ⟨by (try simp only [a]); (try simp only [j]); (try simp only [q]); exact bP c.out⟩, ⟨by (try simp only [a]); (try simp only [j]); (try simp only [q]); exact bP m.out⟩, ⟨by (try simp only [a]); (try simp only [j]); (try simp only [q]); exact bP d.out⟩, ⟨bW⟩⟩
          rw [if_neg bK] at H
          have fm := dF bK
          clear bK
          have H' := mA H
          clear H
          have a1 : 0 ≤ (0 : Int) := (by omega)
          have a2 : 0 < (r.length : Int) := ofD
          obtain ⟨ci, cE, aN⟩ := zI (zE B.out).2.2 0 a1 a2
          obtain rfl : z = ci := (by injection cE)
          have fn : (0 < r.length) = True := eq_true (by omega)
          (try rw [show ((0 : Int)).toNat = 0 from rfl] at aN)
          (try rw [Addr.add_zero'] at aN)
          replace a1 := eq_true a1
          replace a2 := eq_true a2
          go_wp2
          go_meet
          case rel => exact ⟨_, (decide (ac < 0)), (eW), H', ⟨by have := au.out; have := aq.out; have := aI.out; have := aG.out; first | omega | exact Nat.le_refl _⟩, ⟨by (try simp only [a]); (try simp only [j]); (try simp only [q]); exact rP B.out⟩, ⟨by (try simp only [a]); (try simp only [j]); (try simp only [q]); exact rP x.out⟩, ⟨by (try simp only [a]); (try simp only [j]); (try simp only [q]); exact rP u.out⟩, ⟨by (try simp only [a]); (try simp only [j]); (try simp only [q]); exact rP L.out⟩, ⟨by (try simp only [a]); (try simp only [j]); (try simp only [q]); exact sP l.out⟩, ⟨by (try simp only [a]); (try simp only [j]); (try simp only [q]); exact bP c.out⟩, ⟨by (try simp only [a]); (try simp only [j]); (try simp only [q]); exact bP m.out⟩, ⟨by (try simp only [a]); (try simp only [j]); (try simp only [q]); exact bP d.out⟩, ⟨bW⟩⟩
         case rest =>
          clear cD dk fd dq ff du fh dx ec ed ee ef eg eh bi av aD cb cd cf cc ce cg
          obtain ⟨kq, a9, rfl, HA, bj, B, x, u, L, l, c, m, d, HB⟩ := hcut
          cases kq with
          | zero => exact absurd HA.out (by simp [Zah.j4])
          | succ cF =>
           have H := HA.out
           clear HA
           simp only [Zah.j4] at H
           by_cases dA : a9 = true
           ·subst dA
            rw [if_pos rfl] at H
            by_cases dB : am.length < 17592186044416; rotate_left
            ·rw [if_neg dB] at H
             exact absurd H (by simp)
            rw [if_pos dB] at H
            have fo := mA dB
            clear dB
            obtain ⟨gH, cj⟩ : ∃ y_ : List Int, y_ = (am ++ [(-1)]) := ⟨_, rfl⟩
            rw [← cj] at H
            have fp := mA cj
            clear cj
            have H' := mA H
            clear H
            go_wp2_with (first | ((with_reducible refine Zbl (b := .append) (xs := #[.tmp 78, .tmp 79]) rfl ?_); at_builtin; refine xI (Kd.int .i64) (w0 := w) w.heap.size rfl (.tmp 78) (.tmp 79) 22 2 (.int .i64 0) 8 rfl Tryd.underlying22 info2 rfl (by decide) (by omega) u10 am (-1) [.int .i64 (-1)] (fun k_ => some k_ ≠ (.slice (some z) r.length J : Value).ownBlock ∧ some k_ ≠ (.slice (some ad) y.length ao : Value).ownBlock ∧ some k_ ≠ (.slice ai D.length G : Value).ownBlock) (fun _ => False) rfl rfl ?aP (fun _ hk => hk.elim) ?aF ?aO ?aB ?aS ?aL ?_; (case aP => exact rfl); (case aB => exact (bW)); (case aF => exact (fun k_ hk => ⟨zT (zG (rP B.out)) k_ hk, zT (zG (rP x.out)) k_ hk, zT (zG (rP u.out)) k_ hk⟩)); (case aO => exact (rP L.out)); (case aS => exact (Zag (bW))); (case aL => have := fo.out; omega); intro iR i3 ho hb hg hat; rw [← fp.out] at ho; replace B := mA (zU (ok := (fun k_ => some k_ ≠ (.slice (some ad) y.length ao : Value).ownBlock ∧ some k_ ≠ (.slice ai D.length G : Value).ownBlock)) (by (with_reducible repeat (first | apply zC | apply zD | apply zA)); exact zB B.out (fun _ hk => ⟨⟨hk.1, hk.2.1⟩, hk.2.2⟩)) hg hat); replace x := mA (zU (ok := (fun k_ => some k_ ≠ (.slice (some z) r.length J : Value).ownBlock ∧ some k_ ≠ (.slice ai D.length G : Value).ownBlock)) (by (with_reducible repeat (first | apply zC | apply zD | apply zA)); exact zB x.out (fun _ hk => ⟨⟨hk.1, hk.2.1⟩, hk.2.2⟩)) hg hat); replace u := mA (zU (ok := (fun k_ => some k_ ≠ (.slice (some z) r.length J : Value).ownBlock ∧ some k_ ≠ (.slice (some ad) y.length ao : Value).ownBlock)) (by (with_reducible repeat (first | apply zC | apply zD | apply zA)); exact zB u.out (fun _ hk => ⟨⟨hk.1, hk.2.1⟩, hk.2.2⟩)) hg hat); replace l := mA (xY (ok := (fun k_ => some k_ ≠ (.slice (some z) r.length J : Value).ownBlock ∧ some k_ ≠ (.slice (some ad) y.length ao : Value).ownBlock ∧ some k_ ≠ (.slice ai D.length G : Value).ownBlock)) (by (with_reducible repeat (first | apply yD | apply yE | apply zW)); exact yC l.out (fun _ hk => ⟨⟨hk.1, ⟨hk.2.1, hk.2.2.1⟩⟩, hk.2.2.2⟩)) hg hat); replace c := mA (Zaq (g := O) (o := .cells #[.int .i64 s, .slice (some ar) A.length ag, .slice ak P.length ah] 69 (0, 0)) (bP c.out) hg (zO L.out c.out (by decide))); replace m := mA (Zaq (g := W) (o := .cells #[.int .i64 0, .int .i64 0, .int .i64 0, .slice none 0 0] 34 (0, 0)) (bP m.out) hg (zO L.out m.out (by decide))); replace d := mA (Zaq (g := E) (o := .cells #[.int .i64 s, .int .i64 0, .int .i64 0, T] 34 (0, 0)) (bP d.out) hg (zO L.out d.out (by decide))); replace HB := mA (hb); have fq := mA (ho); clear L ho hb hg hat))
            (try simp only [← q])
            go_roundg cF
            case measure => have := au.out; have := aq.out; have := aI.out; have := aG.out; have := bj.out; omega
            case rel => exact ⟨(y), (D), (gH), (wrap64 (Y + 1)), (eW), H', ⟨by have := au.out; have := aq.out; have := aI.out; have := aG.out; have := bj.out; omega⟩, ⟨by (try simp only [a]); (try simp only [j]); (try simp only [q]); (with_reducible repeat (first | apply zC | apply zD | apply zA)); exact zB B.out (fun _ hk => ⟨hk.1.1, ⟨hk.1.2, hk.2⟩⟩)⟩, ⟨by (try simp only [a]); (try simp only [j]); (try simp only [q]); (with_reducible repeat (first | apply zC | apply zD | apply zA)); exact zB x.out (fun _ hk => ⟨hk.1.1, ⟨hk.1.2, hk.2⟩⟩)⟩, ⟨by (try simp only [a]); (try simp only [j]); (try simp only [q]); (with_reducible repeat (first | apply zC | apply zD | apply zA)); exact zB u.out (fun _ hk => ⟨hk.1.1, ⟨hk.1.2, hk.2⟩⟩)⟩, ⟨by (try simp only [a]); (try simp only [j]); (try simp only [q]); exact rP fq.out⟩, ⟨by (try simp only [a]); (try simp only [j]); (try simp only [q]); (with_reducible repeat (first | apply yD | apply yE | apply zW)); exact yC l.out (fun _ hk => ⟨hk.1.1, ⟨hk.1.2.1, ⟨hk.1.2.2, hk.2⟩⟩⟩)⟩, ⟨by (try simp only [a]); (try simp only [j]); (try simp only [q]); exact bP c.out⟩, ⟨by (try simp only [a]); (try simp only [j]); (try simp only [q]); exact bP m.out⟩, ⟨by (try simp only [a]); (try simp only [j]); (try simp only [q]); exact bP d.out⟩, ⟨bW⟩⟩
           replace dA := Bool.eq_false_iff.mpr dA
           subst dA
           rw [iF] at H
           by_cases dC : 0 ≤ ac; rotate_left
           ·rw [if_neg dC] at H
            exact absurd H (by simp)
           rw [if_pos dC] at H
           have ir := dT dC
           clear dC
           by_cases dD : ac < (D.length : Int); rotate_left
           ·rw [if_neg dD] at H
            exact absurd H (by simp)
           rw [if_pos dD] at H
           have fr := dT dD
           (try (have fs := fr; simp only [a, j, q] at fs))
           clear dD
           by_cases bL : (rd D ac) < 0; rotate_left
           ·rw [if_neg bL] at H
            have ft := dF bL
            clear bL
            by_cases dE : am.length < 17592186044416; rotate_left
            ·rw [if_neg dE] at H
             exact absurd H (by simp)
            rw [if_pos dE] at H
            have fu := mA dE
            clear dE
            obtain ⟨gI, ck⟩ : ∃ y_ : List Int, y_ = (am ++ [rd D ac]) := ⟨_, rfl⟩
            rw [← ck] at H
            have fv := mA ck
            clear ck
            have H' := mA H
            clear H
            have a3 : 0 ≤ (ac : Int) := ofD
            have a4 : ac < (D.length : Int) := ofD
            obtain ⟨aT, cG, bM⟩ := zI (zE u.out).2.2 ac a3 a4
            cases cG
            replace a3 := eq_true a3
            replace a4 := eq_true a4
            have cH : 0 ≤ (ac : Int) := ofD
            have cI : ac < (D.length : Int) := ofD
            obtain ⟨fw, gJ, hv⟩ := zI (zE u.out).2.2 ac cH cI
            obtain rfl : aT = fw := (by injection gJ)
            replace cH := eq_true cH
            replace cI := eq_true cI
            go_wp2_with (first | ((with_reducible refine Zbl (b := .append) (xs := #[.tmp 105, .tmp 110]) rfl ?_); at_builtin; refine xI (Kd.int .i64) (w0 := w) w.heap.size rfl (.tmp 105) (.tmp 110) 22 2 (.int .i64 0) 8 rfl Tryd.underlying22 info2 rfl (by decide) (by omega) u10 am (rd D ac) [.int .i64 (rd D ac)] (fun k_ => some k_ ≠ (.slice (some z) r.length J : Value).ownBlock ∧ some k_ ≠ (.slice (some ad) y.length ao : Value).ownBlock ∧ some k_ ≠ (.slice (some aT) D.length G : Value).ownBlock) (fun _ => False) rfl rfl ?aP (fun _ hk => hk.elim) ?aF ?aO ?aB ?aS ?aL ?_; (case aP => exact rfl); (case aB => exact (bW)); (case aF => exact (fun k_ hk => ⟨zT (zG (rP B.out)) k_ hk, zT (zG (rP x.out)) k_ hk, zT (zG (rP u.out)) k_ hk⟩)); (case aO => exact (rP L.out)); (case aS => exact (Zag (bW))); (case aL => have := fu.out; omega); intro iS i4 ho hb hg hat; rw [← fv.out] at ho; replace B := mA (zU (ok := (fun k_ => some k_ ≠ (.slice (some ad) y.length ao : Value).ownBlock ∧ some k_ ≠ (.slice (some aT) D.length G : Value).ownBlock)) (by (with_reducible repeat (first | apply zC | apply zD | apply zA)); exact zB B.out (fun _ hk => ⟨⟨hk.1, hk.2.1⟩, hk.2.2⟩)) hg hat); replace x := mA (zU (ok := (fun k_ => some k_ ≠ (.slice (some z) r.length J : Value).ownBlock ∧ some k_ ≠ (.slice (some aT) D.length G : Value).ownBlock)) (by (with_reducible repeat (first | apply zC | apply zD | apply zA)); exact zB x.out (fun _ hk => ⟨⟨hk.1, hk.2.1⟩, hk.2.2⟩)) hg hat); replace u := mA (zU (ok := (fun k_ => some k_ ≠ (.slice (some z) r.length J : Value).ownBlock ∧ some k_ ≠ (.slice (some ad) y.length ao : Value).ownBlock)) (by (with_reducible repeat (first | apply zC | apply zD | apply zA)); exact zB u.out (fun _ hk => ⟨⟨hk.1, hk.2.1⟩, hk.2.2⟩)) hg hat); replace l := mA (xY (ok := (fun k_ => some k_ ≠ (.slice (some z) r.length J : Value).ownBlock ∧ some k_ ≠ (.slice (some ad) y.length ao : Value).ownBlock ∧ some k_ ≠ (.slice (some aT) D.length G : Value).ownBlock)) (by (with_reducible repeat (first | apply yD | apply yE | apply zW)); exact yC l.out (fun _ hk => ⟨⟨hk.1, ⟨hk.2.1, hk.2.2.1⟩⟩, hk.2.2.2⟩)) hg hat); replace c := mA (Zaq (g := O) (o := .cells #[.int .i64 s, .slice (some ar) A.length ag, .slice ak P.length ah] 69 (0, 0)) (bP c.out) hg (zO L.out c.out (by decide))); replace m := mA (Zaq (g := W) (o := .cells #[.int .i64 0, .int .i64 0, .int .i64 0, .slice none 0 0] 34 (0, 0)) (bP m.out) hg (zO L.out m.out (by decide))); replace d := mA (Zaq (g := E) (o := .cells #[.int .i64 s, .int .i64 0, .int .i64 0, T] 34 (0, 0)) (bP d.out) hg (zO L.out d.out (by decide))); replace HB := mA (hb); have fx := mA (ho); clear L ho hb hg hat))
            (try simp only [← q])
            go_roundg cF
            case measure => have := au.out; have := aq.out; have := aI.out; have := aG.out; have := bj.out; omega
            case rel => exact ⟨(y), (D), (gI), (wrap64 (Y + 1)), (eW), H', ⟨by have := au.out; have := aq.out; have := aI.out; have := aG.out; have := bj.out; omega⟩, ⟨by (try simp only [a]); (try simp only [j]); (try simp only [q]); (with_reducible repeat (first | apply zC | apply zD | apply zA)); exact zB B.out (fun _ hk => ⟨hk.1.1, ⟨hk.1.2, hk.2⟩⟩)⟩, ⟨by (try simp only [a]); (try simp only [j]); (try simp only [q]); (with_reducible repeat (first | apply zC | apply zD | apply zA)); exact zB x.out (fun _ hk => ⟨hk.1.1, ⟨hk.1.2, hk.2⟩⟩)⟩, ⟨by (try simp only [a]); (try simp only [j]); (try simp only [q]); (with_reducible repeat (first | apply zC | apply zD | apply zA)); exact zB u.out (fun _ hk => ⟨hk.1.1, ⟨hk.1.2, hk.2⟩⟩)⟩, ⟨by (try simp only [a]); (try simp only [j]); (try simp only [q]); exact rP fx.out⟩, ⟨by (try simp only [a]); (try simp only [j]); (try simp only [q]); (with_reducible repeat (first | apply yD | apply yE | apply zW)); exact yC l.out (fun _ hk => ⟨hk.1.1, ⟨hk.1.2.1, ⟨hk.1.2.2, hk.2⟩⟩⟩)⟩, ⟨by (try simp only [a]); (try simp only [j]); (try simp only [q]); exact bP c.out⟩, ⟨by (try simp only [a]); (try simp only [j]); (try simp only [q]); exact bP m.out⟩, ⟨by (try simp only [a]); (try simp only [j]); (try simp only [q]); exact bP d.out⟩, ⟨bW⟩⟩
           rw [if_pos bL] at H
           have ft := dT bL
           clear bL
           obtain ⟨bk, cm⟩ : ∃ y_ : List Int, y_ = (D.set (ac : Int).toNat (y.length : Int)) := ⟨_, rfl⟩
           replace H := bsm cm H
           have dG := mA cm
           clear cm
           by_cases dH : 0 ≤ I; rotate_left
           ·rw [if_neg dH] at H
            exact absurd H (by simp)
           rw [if_pos dH] at H
           have it := dT dH
           clear dH
           by_cases dI : I < (y.length : Int); rotate_left
           ·rw [if_neg dI] at H
            exact absurd H (by simp)
           rw [if_pos dI] at H
           have fy := dT dI
           (try (have fz := fy; simp only [a, j, q] at fz))
           clear dI
           by_cases dJ : 0 ≤ (rd y I); rotate_left
           ·rw [if_neg dJ] at H
            exact absurd H (by simp)
           rw [if_pos dJ] at H
           have iu := dT dJ
           clear dJ
           by_cases dK : (rd y I) < (A.length : Int); rotate_left
           ·rw [if_neg dK] at H
            exact absurd H (by simp)
           rw [if_pos dK] at H
           have fA := dT dK
           (try (have fB := fA; simp only [a, j, q] at fB))
           clear dK
           by_cases dL : 0 ≤ Y; rotate_left
           ·rw [if_neg dL] at H
            exact absurd H (by simp)
           rw [if_pos dL] at H
           have iv := dT dL
           clear dL
           by_cases dM : Y < ((Zae A (rd y I)).length : Int); rotate_left
           ·rw [if_neg dM] at H
            exact absurd H (by simp)
           rw [if_pos dM] at H
           have fC := dT dM
           (try (have fD := fC; simp only [a, j, q] at fD))
           clear dM
           by_cases dN : y.length < 17592186044416; rotate_left
           ·rw [if_neg dN] at H
            exact absurd H (by simp)
           rw [if_pos dN] at H
           have fE := mA dN
           clear dN
           obtain ⟨gK, cn⟩ : ∃ y_ : List Int, y_ = (y ++ [rd (Zae A (rd y I)) Y]) := ⟨_, rfl⟩
           rw [← cn] at H
           have fF := mA cn
           clear cn
           by_cases dO : am.length < 17592186044416; rotate_left
           ·rw [if_neg dO] at H
            exact absurd H (by simp)
           rw [if_pos dO] at H
           have fG := mA dO
           clear dO
           obtain ⟨gL, co⟩ : ∃ y_ : List Int, y_ = (am ++ [rd bk ac]) := ⟨_, rfl⟩
           rw [← co] at H
           have fH := mA co
           clear co
           have H' := mA H
           clear H
           have a3 : 0 ≤ (ac : Int) := ofD
           have a4 : ac < (D.length : Int) := ofD
           obtain ⟨aT, cG, bM⟩ := zI (zE u.out).2.2 ac a3 a4
           cases cG
           replace a3 := eq_true a3
           replace a4 := eq_true a4
           have eP : 0 ≤ (ac : Int) := ofD
           have eQ : (ac : Int) < ((D.length : Int) : Int) := ofD
           obtain ⟨an, iT, eR, eS, gM, iU, eT⟩ := yV u.out (by omega)
           (first | cases eR | (injection eR with ea_ en_ ec_; (first | subst ea_ | (injection ea_ with ea_; subst ea_)); subst ec_; clear en_))
           have gN := mA eS
           have iV := mA eT
           clear eS gM eT
           (first | simp only [Zco] at bM | skip)
           obtain ⟨hO, hP⟩ := yH 0 u.out (ac : Int) eP eQ
           replace eP := eq_true eP
           replace eQ := eq_true eQ
           have cJ := yN u.out (ac : Int) (y.length : Int)
           try go_wp2_with (first | ((with_reducible refine Zbp (t := 2) (p := 90) rfl ?_); refine Zdi (t := 2) (p := 90) (w1 := (wc.setCell ⟨an, (ac : Int).toNat, none⟩ (.int .i64 (y.length : Int)))) ?_; intro dP hw; have hg : wc.grownBy dP (some an) := (by rw [hw]; exact cJ.2); have hp_ : Kd.R (Kd.int .i64) 2 dP w.heap.size (fun k_ => some k_ ≠ (.slice (some z) r.length J : Value).ownBlock ∧ some k_ ≠ (.slice (some ad) y.length ao : Value).ownBlock ∧ some k_ ≠ (u10 : Value).ownBlock) (.slice (some ⟨an, 0, none⟩) D.length G) bk := (by rw [hw, dG.out]; exact cJ.1); clear cJ; replace B := mA (zU (v := (.slice (some ⟨an, 0, none⟩) D.length G)) (v1 := (.slice (some ⟨an, 0, none⟩) D.length G)) (ok := (fun k_ => some k_ ≠ (.slice (some ad) y.length ao : Value).ownBlock ∧ some k_ ≠ (u10 : Value).ownBlock)) (by (with_reducible repeat (first | apply zC | apply zD | apply zA)); exact zB B.out (fun _ hk => ⟨⟨hk.1, hk.2.2⟩, hk.2.1⟩)) hg (.inl rfl)); replace x := mA (zU (v := (.slice (some ⟨an, 0, none⟩) D.length G)) (v1 := (.slice (some ⟨an, 0, none⟩) D.length G)) (ok := (fun k_ => some k_ ≠ (.slice (some z) r.length J : Value).ownBlock ∧ some k_ ≠ (u10 : Value).ownBlock)) (by (with_reducible repeat (first | apply zC | apply zD | apply zA)); exact zB x.out (fun _ hk => ⟨⟨hk.1, hk.2.2⟩, hk.2.1⟩)) hg (.inl rfl)); replace L := mA (zU (v := (.slice (some ⟨an, 0, none⟩) D.length G)) (v1 := (.slice (some ⟨an, 0, none⟩) D.length G)) (ok := (fun k_ => some k_ ≠ (.slice (some z) r.length J : Value).ownBlock ∧ some k_ ≠ (.slice (some ad) y.length ao : Value).ownBlock)) (by (with_reducible repeat (first | apply zC | apply zD | apply zA)); exact zB L.out (fun _ hk => ⟨⟨hk.1, hk.2.1⟩, hk.2.2⟩)) hg (.inl rfl)); replace l := mA (xY (v := (.slice (some ⟨an, 0, none⟩) D.length G)) (v1 := (.slice (some ⟨an, 0, none⟩) D.length G)) (ok := (fun k_ => some k_ ≠ (.slice (some z) r.length J : Value).ownBlock ∧ some k_ ≠ (.slice (some ad) y.length ao : Value).ownBlock ∧ some k_ ≠ (u10 : Value).ownBlock)) (by (with_reducible repeat (first | apply yD | apply yE | apply zW)); exact yC l.out (fun _ hk => ⟨⟨hk.1, ⟨hk.2.1, hk.2.2.2⟩⟩, hk.2.2.1⟩)) hg (.inl rfl)); replace c := mA (Zaq (g := O) (o := .cells #[.int .i64 s, .slice (some ar) A.length ag, .slice ak P.length ah] 69 (0, 0)) (bP c.out) hg (zO u.out c.out (by decide))); replace m := mA (Zaq (g := W) (o := .cells #[.int .i64 0, .int .i64 0, .int .i64 0, .slice none 0 0] 34 (0, 0)) (bP m.out) hg (zO u.out m.out (by decide))); replace d := mA (Zaq (g := E) (o := .cells #[.int .i64 s, .int .i64 0, .int .i64 0, T] 34 (0, 0)) (bP d.out) hg (zO u.out d.out (by decide))); replace u := mA (hp_); replace HB := mA ((by rw [hw]; exact Zbs (HB.out) gN.out : Below w.heap.size w dP)); clear hg hw hp_))
           replace B := mA (zA B.out)
           replace x := mA (zA x.out)
           replace u := mA (zA u.out)
           replace L := mA (zA L.out)
           replace l := mA (zW l.out)
           replace c := mA (Zad c.out)
           replace m := mA (Zad m.out)
           replace d := mA (Zad d.out)
           replace HB := mA (Za0 HB.out)
           have cK : 0 ≤ (I : Int) := ofD
           have cL : I < (y.length : Int) := ofD
           obtain ⟨fI, gO, bN⟩ := zI (zE x.out).2.2 I cK cL
           obtain rfl : ad = fI := (by injection gO)
           replace cK := eq_true cK
           replace cL := eq_true cL
           have cM : 0 ≤ ((rd y I) : Int) := ofD
           have cN : (rd y I) < (A.length : Int) := ofD
           obtain ⟨fJ, eU, ct, gP, aE, bO, bQ⟩ := Zch bS.out (rd y I) cM cN
           have ei := aE
           obtain rfl : ar = fJ := (by injection gP)
           (try (have hQ : eU = eO ∧ ct = cr := (by have e_ := aE.symm.trans av; simpa using e_)))
           replace aE := (HB.out.cell (wB w aE)).trans aE
           have bR := mA bQ
           have hx := mA bO
           clear bQ bO
           replace cM := eq_true cM
           replace cN := eq_true cN
           have cO : 0 ≤ (Y : Int) := ofD
           have cQ : Y < ((Zae A (rd y I)).length : Int) := ofD
           obtain ⟨dQ, gQ, aQ⟩ := zI bR.out Y cO cQ
           have ej := aQ
           cases gQ
           replace aQ := (HB.out.cell (wB w aQ)).trans aQ
           replace cO := eq_true cO
           replace cQ := eq_true cQ
           refine Zcq (n := 15) (S := fun w' => w'.cell? ⟨O, 0, none⟩ = some (.int .i64 s) ∧ w'.cell? ⟨O, 1, none⟩ = some (.slice (some ar) A.length ag) ∧ w'.cell? ⟨O, 2, none⟩ = some (.slice ak P.length ah) ∧ w'.cell? (ad.add (I).toNat) = some (.int .i64 (rd y I)) ∧ w'.cell? (ar.add ((rd y I)).toNat) = some (.slice (some dQ) (Zae A (rd y I)).length ct) ∧ w'.cell? (dQ.add (Y).toNat) = some (.int .i64 (rd (Zae A (rd y I)) Y))) (ds := [12, 13]) #[false, false, false, false, false, false, false, false, false, false, false, false, false, false, false] (by kernel_rfl) rfl rfl ⟨bc c 0, bc c 1, bc c 2, bN, (cB HB ei :), (cB HB ej :)⟩ (fun hHeld => ?_); refine Zb7 Zah.tab23 Zah.bits23 (fun HT_ HW_ => ?_)
           generalize dP.drew = w74 at B x u L l c m d HB bR bN aE aQ hHeld ⊢
           refine Zan (i := 0) (N := some 91) (Zai HT_.out (by kernel_rfl)) ?_
           refine Zan (i := 1) (N := some 92) (Zai HT_.out (by kernel_rfl)) ?_
           refine Zan (i := 3) (N := some 94) (Zai HT_.out (by kernel_rfl)) ?_
           refine Zan (i := 4) (N := some 95) (Zai HT_.out (by kernel_rfl)) ?_
           refine Zan (i := 5) (N := some 96) (Zai HT_.out (by kernel_rfl)) ?_
           refine Zan (i := 9) (N := some 100) (Zai HT_.out (by kernel_rfl)) ?_
           refine Za8 (i := 2) (N := some 93) (Zaz HT_.out HW_.out (by kernel_rfl)) hHeld ?_
           refine Za8 (i := 6) (N := some 97) (Zaz HT_.out HW_.out (by kernel_rfl)) hHeld ?_
           refine Zan (i := 7) (N := some 98) (Zai HT_.out (by kernel_rfl)) ?_
           refine Za8 (i := 8) (N := some 99) (Zaz HT_.out HW_.out (by kernel_rfl)) hHeld ?_
           refine Zan (i := 10) (N := some 101) (Zai HT_.out (by kernel_rfl)) ?_
           refine Za8 (i := 11) (N := some 102) (Zaz HT_.out HW_.out (by kernel_rfl)) hHeld ?_
           refine last_ (i := 12) (N := some 103) #[true, true, true, true, true, true, true, true, true, true, true, true, true, false, false] rfl rfl (Za9 HT_.out (by kernel_rfl)) (by decide) (fun K hK => ?_)
           refine value_ (w1 := ?_) (v := ?_) (by rfl) rfl ?_ ?_
           rotate_left 2
           ·go_simp
            constructor
            ·rfl
            ·rfl
           refine hK.out _ _ ?_
           clear hK K
           refine putS 103 ?_
           refine last_ (i := 13) (N := some 104) #[true, true, true, true, true, true, true, true, true, true, true, true, true, true, false] rfl rfl (Za9 HT_.out (by kernel_rfl)) (by decide) (fun K hK => ?_)
           refine qD (Kd.int .i64) (w0 := w) w.heap.size (by rfl) (.tmp 91) (.tmp 103) 22 2 (.int .i64 0) 8 rfl Tryd.underlying22 info2 rfl (by decide) (by omega) (.slice (some ad) y.length ao) y (rd (Zae A (rd y I)) Y) [.int .i64 (rd (Zae A (rd y I)) Y)] (fun k_ => some k_ ≠ (.slice (some z) r.length J : Value).ownBlock ∧ some k_ ≠ (.slice (some ⟨an, 0, none⟩) D.length G : Value).ownBlock ∧ some k_ ≠ (u10 : Value).ownBlock) (fun _ => False) rfl rfl ?aP (fun _ hk => hk.elim) ?aF ?aO ?aB ?aS ?aL ?_
           (case aP => exact rfl)
           (case aB => exact (bW))
           (case aF => exact (fun k_ hk => ⟨zT (zG (rP B.out)) k_ hk, zT (zG (rP u.out)) k_ hk, zT (zG (rP L.out)) k_ hk⟩))
           (case aO => exact (by (with_reducible repeat (first | apply zC | apply zD | apply zA)); exact zB x.out (fun _ hk => ⟨hk.1.1, ⟨hk.2, hk.1.2⟩⟩)))
           (case aS => exact (Zag (bW)))
           (case aL => have := fE.out; omega)
           intro cp i5 ho hb hg hat
           rw [← fF.out] at ho
           replace B := mA (zU (ok := (fun k_ => some k_ ≠ (.slice (some ⟨an, 0, none⟩) D.length G : Value).ownBlock ∧ some k_ ≠ (u10 : Value).ownBlock)) (by (with_reducible repeat (first | apply zC | apply zD | apply zA)); exact zB B.out (fun _ hk => ⟨⟨hk.2, hk.1.2⟩, hk.1.1⟩)) hg hat)
           replace u := mA (zU (ok := (fun k_ => some k_ ≠ (.slice (some z) r.length J : Value).ownBlock ∧ some k_ ≠ (u10 : Value).ownBlock)) (by (with_reducible repeat (first | apply zC | apply zD | apply zA)); exact zB u.out (fun _ hk => ⟨⟨hk.1, hk.2.2⟩, hk.2.1⟩)) hg hat)
           replace L := mA (zU (ok := (fun k_ => some k_ ≠ (.slice (some z) r.length J : Value).ownBlock ∧ some k_ ≠ (.slice (some ⟨an, 0, none⟩) D.length G : Value).ownBlock)) (by (with_reducible repeat (first | apply zC | apply zD | apply zA)); exact zB L.out (fun _ hk => ⟨⟨hk.1.1, hk.2⟩, hk.1.2⟩)) hg hat)
           replace l := mA (xY (ok := (fun k_ => some k_ ≠ (.slice (some z) r.length J : Value).ownBlock ∧ some k_ ≠ (.slice (some ⟨an, 0, none⟩) D.length G : Value).ownBlock ∧ some k_ ≠ (u10 : Value).ownBlock)) (by (with_reducible repeat (first | apply yD | apply yE | apply zW)); exact yC l.out (fun _ hk => ⟨⟨hk.1.1, ⟨hk.2, hk.1.2.2⟩⟩, hk.1.2.1⟩)) hg hat)
           replace c := mA (Zaq (g := O) (o := .cells #[.int .i64 s, .slice (some ar) A.length ag, .slice ak P.length ah] 69 (0, 0)) (bP c.out) hg (zO x.out c.out (by decide)))
           replace m := mA (Zaq (g := W) (o := .cells #[.int .i64 0, .int .i64 0, .int .i64 0, .slice none 0 0] 34 (0, 0)) (bP m.out) hg (zO x.out m.out (by decide)))
           replace d := mA (Zaq (g := E) (o := .cells #[.int .i64 s, .int .i64 0, .int .i64 0, T] 34 (0, 0)) (bP d.out) hg (zO x.out d.out (by decide)))
           replace HB := mA (hb)
           have bp := mA (ho)
           clear x ho hb hg hat
           refine hK.out _ _ ?_
           clear hK K
           refine putS 104 ?_
           refine Zan (i := 14) (N := some 6) (Zai HT_.out (by kernel_rfl)) ?_
           refine Zcz (Zct HT_.out (by kernel_rfl)) ?_
           have cR : 0 ≤ (ac : Int) := ofD
           have cS : ac < (bk.length : Int) := (by have h_ : (ac : Int) < ((D.length : Int) : Int) := ofD; first | (have e_ := (zE u.out).1; omega) | simpa only [dG.out, List.length_set] using h_)
           have iw : ((ac : Int) < ((D.length : Int) : Int)) = True := eq_true (ofD)
           obtain ⟨fK, gR, bl⟩ := zI (zE u.out).2.2 ac cR cS
           obtain rfl : (⟨an, 0, none⟩ : Addr) = fK := (by injection gR)
           (first | simp only [Zco] at bl | simp only [add_at] at bl | simp only [Addr.add, Nat.zero_add] at bl | skip)
           replace cR := eq_true cR
           replace cS := eq_true cS
           try go_wp2_with (first | ((with_reducible refine Zbl (b := .append) (xs := #[.tmp 105, .tmp 110]) rfl ?_); at_builtin; refine xI (Kd.int .i64) (w0 := w) w.heap.size rfl (.tmp 105) (.tmp 110) 22 2 (.int .i64 0) 8 rfl Tryd.underlying22 info2 rfl (by decide) (by omega) u10 am (rd bk ac) [.int .i64 (rd bk ac)] (fun k_ => some k_ ≠ (.slice (some z) r.length J : Value).ownBlock ∧ some k_ ≠ (.slice (some ⟨an, 0, none⟩) D.length G : Value).ownBlock ∧ some k_ ≠ (cp : Value).ownBlock) (fun _ => False) rfl rfl ?aP (fun _ hk => hk.elim) ?aF ?aO ?aB ?aS ?aL ?_; (case aP => exact rfl); (case aB => exact (bW)); (case aF => exact (fun k_ hk => ⟨zT (zG (rP B.out)) k_ hk, zT (zG (rP u.out)) k_ hk, zT (zG (rP bp.out)) k_ hk⟩)); (case aO => exact (by (with_reducible repeat (first | apply zC | apply zD | apply zA)); exact zB L.out (fun _ hk => ⟨hk.1.1, ⟨hk.1.2, hk.2⟩⟩))); (case aS => exact (Zag (bW))); (case aL => have := fG.out; omega); intro iW i6 ho hb hg hat; rw [← fH.out] at ho; replace B := mA (zU (ok := (fun k_ => some k_ ≠ (.slice (some ⟨an, 0, none⟩) D.length G : Value).ownBlock ∧ some k_ ≠ (cp : Value).ownBlock)) (by (with_reducible repeat (first | apply zC | apply zD | apply zA)); exact zB B.out (fun _ hk => ⟨⟨hk.1.1, hk.2⟩, hk.1.2⟩)) hg hat); replace u := mA (zU (ok := (fun k_ => some k_ ≠ (.slice (some z) r.length J : Value).ownBlock ∧ some k_ ≠ (cp : Value).ownBlock)) (by (with_reducible repeat (first | apply zC | apply zD | apply zA)); exact zB u.out (fun _ hk => ⟨⟨hk.1.1, hk.2⟩, hk.1.2⟩)) hg hat); replace l := mA (xY (ok := (fun k_ => some k_ ≠ (.slice (some z) r.length J : Value).ownBlock ∧ some k_ ≠ (.slice (some ⟨an, 0, none⟩) D.length G : Value).ownBlock ∧ some k_ ≠ (cp : Value).ownBlock)) (by (with_reducible repeat (first | apply yD | apply yE | apply zW)); exact yC l.out (fun _ hk => ⟨⟨hk.1.1, ⟨hk.1.2.1, hk.2⟩⟩, hk.1.2.2⟩)) hg hat); replace c := mA (Zaq (g := O) (o := .cells #[.int .i64 s, .slice (some ar) A.length ag, .slice ak P.length ah] 69 (0, 0)) (bP c.out) hg (zO L.out c.out (by decide))); replace m := mA (Zaq (g := W) (o := .cells #[.int .i64 0, .int .i64 0, .int .i64 0, .slice none 0 0] 34 (0, 0)) (bP m.out) hg (zO L.out m.out (by decide))); replace d := mA (Zaq (g := E) (o := .cells #[.int .i64 s, .int .i64 0, .int .i64 0, T] 34 (0, 0)) (bP d.out) hg (zO L.out d.out (by decide))); replace bp := mA (zU (ok := (fun k_ => some k_ ≠ (.slice (some z) r.length J : Value).ownBlock ∧ some k_ ≠ (.slice (some ⟨an, 0, none⟩) D.length G : Value).ownBlock)) (by (with_reducible repeat (first | apply zC | apply zD | apply zA)); exact zB bp.out (fun _ hk => ⟨⟨hk.1, hk.2.1⟩, hk.2.2⟩)) hg hat); replace HB := mA (hb); have fL := mA (ho); clear L ho hb hg hat))
           (try simp only [← q])
           go_roundg cF
           case measure => have := au.out; have := aq.out; have := aI.out; have := aG.out; have := bj.out; omega
           case rel => exact ⟨(gK), (bk), (gL), (wrap64 (Y + 1)), (eW), H', ⟨by have := au.out; have := aq.out; have := aI.out; have := aG.out; have := bj.out; omega⟩, ⟨by (try simp only [a]); (try simp only [j]); (try simp only [q]); (with_reducible repeat (first | apply zC | apply zD | apply zA)); exact zB B.out (fun _ hk => ⟨hk.1.2, ⟨hk.1.1, hk.2⟩⟩)⟩, ⟨by (try simp only [a]); (try simp only [j]); (try simp only [q]); (with_reducible repeat (first | apply zC | apply zD | apply zA)); exact zB bp.out (fun _ hk => ⟨hk.1.1, ⟨hk.1.2, hk.2⟩⟩)⟩, ⟨by (try simp only [a]); (try simp only [j]); (try simp only [q]); (with_reducible repeat (first | apply zC | apply zD | apply zA)); exact zB u.out (fun _ hk => ⟨hk.1.1, ⟨hk.1.2, hk.2⟩⟩)⟩, ⟨by (try simp only [a]); (try simp only [j]); (try simp only [q]); (with_reducible repeat (first | apply zC | apply zD | apply zA)); exact zB fL.out (fun _ hk => ⟨hk.1, ⟨hk.2.2, hk.2.1⟩⟩)⟩, ⟨by (try simp only [a]); (try simp only [j]); (try simp only [q]); (with_reducible repeat (first | apply yD | apply yE | apply zW)); exact yC l.out (fun _ hk => ⟨hk.1.1, ⟨hk.1.2.2, ⟨hk.1.2.1, hk.2⟩⟩⟩)⟩, ⟨by (try simp only [a]); (try simp only [j]); (try simp only [q]); exact bP c.out⟩, ⟨by (try simp only [a]); (try simp only [j]); (try simp only [q]); exact bP m.out⟩, ⟨by (try simp only [a]); (try simp only [j]); (try simp only [q]); exact bP d.out⟩, ⟨bW⟩⟩
end Go.Proofs.YtgindgodfcfgkaaDoor.P
end M0
