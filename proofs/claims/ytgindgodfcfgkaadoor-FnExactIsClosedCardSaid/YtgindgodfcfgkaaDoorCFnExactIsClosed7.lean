import Derived.Test.YtgindgodfcfgkaaDoorCFnExactIsClosed6
section M0
namespace Go.Proofs.YtgindgodfcfgkaaDoor.P
open Go.RowKit Go.Proofs.YtgindgodfcfgkaaDoor.Sh Go.Proofs.YtgindgodfcfgkaaDoorW.PrintWords Go.Proofs.YtgindgodfcfgkaaDoorW.PrintLast Go.Proofs.YtgindgodfcfgkaaDoorW.PrintMore
open Kd
attribute [local go_sem] Zcp Zcq Zc0 Zcy Zcf Zcg Zcr Zcs   -- for this text's walks alone
set_option linter.unusedVariables false
set_option linter.unusedSimpArgs false
mutual
def Zaf.l0 : Nat → List Int → List Int → List Int → Int → Int → List (List Int) → List Bool → Int → Int → Int → Option (Int × Int × Int × (List (List Int)) × Int)
 | 0, _, _, _, _, _, _, _, _, _, _ => none
 | k + 1, x4, x6, x7, x8, a, b, c, d, e, g => if x8 < (x7.length : Int) then (if 0 ≤ x8 then (Zaf.l0 k x4 x6 (x7.set (x8 : Int).toNat (-1)) (wrap64 (x8 + 1)) a b c d e g) else (none)) else (if 0 < (x4.length : Int) then (if (rd x4 0) ≥ 0 then (if 0 ≤ (rd x4 0) then (if (rd x4 0) < (x7.length : Int) then (Zaf.j1 k x4 x6 (x7.set ((rd x4 0) : Int).toNat 0) a b c d e g) else (none)) else (none)) else (Zaf.j1 k x4 x6 x7 a b c d e g)) else (none))
def Zaf.j1 : Nat → List Int → List Int → List Int → Int → List (List Int) → List Bool → Int → Int → Int → Option (Int × Int × Int × (List (List Int)) × Int)
 | 0, _, _, _, _, _, _, _, _, _ => none
 | k + 1, x4, x6, x7, a, b, c, d, e, g => Zaf.l1 k x4 x6 x7 0 a b c d e g ([] : List (List Int))
def Zaf.l1 : Nat → List Int → List Int → List Int → Int → Int → List (List Int) → List Bool → Int → Int → Int → List (List Int) → Option (Int × Int × Int × (List (List Int)) × Int)
 | 0, _, _, _, _, _, _, _, _, _, _, _ => none
 | k + 1, x4, x6, x7, x9, a, b, c, d, e, g, h => if x9 < (x6.length : Int) then (Zaf.l2 k x4 x6 x7 x9 (([] : List Int)) 0 a b c d e g h) else (if (x6.length : Int) > 16 then (some (0, 0, 0, ([] : List (List Int)), (x6.length : Int))) else (Zaf.l3 k x6 (x6.length : Int) 0 a b c d e g h))
def Zaf.l2 : Nat → List Int → List Int → List Int → Int → List Int → Int → Int → List (List Int) → List Bool → Int → Int → Int → List (List Int) → Option (Int × Int × Int × (List (List Int)) × Int)
 | 0, _, _, _, _, _, _, _, _, _, _, _, _, _ => none
 | k + 1, x4, x6, x7, x9, l, i, b, a, d, e, g, h, c => if i < b then (if 0 ≤ x9 then (if x9 < (x6.length : Int) then (if 0 ≤ (rd x6 x9) then (if (rd x6 x9) < (a.length : Int) then (if 0 ≤ i then (if i < ((Zag a (rd x6 x9)).length : Int) then ((Zbd.f x4 (rd (Zag a (rd x6 x9)) i)).bind fun j => (if 0 < (x4.length : Int) then (if (rd x4 0) < 0 then (Zaf.j4 k x4 x6 x7 x9 l i j true b a d e g h c) else (Zaf.j4 k x4 x6 x7 x9 l i j (decide (j < 0)) b a d e g h c)) else (none))) else (none)) else (none)) else (none)) else (none)) else (none)) else (none)) else (if c.length < 5864062014805 then (Zaf.l1 k x4 x6 x7 (wrap64 (x9 + 1)) b a d e g h (c ++ [l])) else (none))
def Zaf.j4 : Nat → List Int → List Int → List Int → Int → List Int → Int → Int → Bool → Int → List (List Int) → List Bool → Int → Int → Int → List (List Int) → Option (Int × Int × Int × (List (List Int)) × Int)
 | 0, _, _, _, _, _, _, _, _, _, _, _, _, _, _, _ => none
 | k + 1, x4, x6, x7, x9, i, j, l, n, b, a, c, d, e, g, h => if n = true then (if i.length < 17592186044416 then (Zaf.l2 k x4 x6 x7 x9 (i ++ [(-1)]) (wrap64 (j + 1)) b a c d e g h) else (none)) else (if 0 ≤ l then (if l < (x7.length : Int) then (if (rd x7 l) < 0 then ((some (x7.set (l : Int).toNat (x6.length : Int) : List Int)).bind fun m => (if 0 ≤ x9 then (if x9 < (x6.length : Int) then (if 0 ≤ (rd x6 x9) then (if (rd x6 x9) < (a.length : Int) then (if 0 ≤ j then (if j < ((Zag a (rd x6 x9)).length : Int) then (if x6.length < 17592186044416 then (if i.length < 17592186044416 then (Zaf.l2 k x4 (x6 ++ [rd (Zag a (rd x6 x9)) j]) m x9 (i ++ [rd m l]) (wrap64 (j + 1)) b a c d e g h) else (none)) else (none)) else (none)) else (none)) else (none)) else (none)) else (none)) else (none))) else (if i.length < 17592186044416 then (Zaf.l2 k x4 x6 x7 x9 (i ++ [rd x7 l]) (wrap64 (j + 1)) b a c d e g h) else (none))) else (none)) else (none))
def Zaf.l3 : Nat → List Int → Int → Int → Int → List (List Int) → List Bool → Int → Int → Int → List (List Int) → Option (Int × Int × Int × (List (List Int)) × Int)
 | 0, _, _, _, _, _, _, _, _, _, _ => none
 | k + 1, x6, j, b, h, i, a, c, d, e, g => if b < j then (if 0 ≤ b then (if b < (x6.length : Int) then (if 0 ≤ (rd x6 b) then (if (rd x6 b) < (a.length : Int) then (if rdOf false a (rd x6 b) = true then ((Zdc.f b).bind fun l => (Zaf.l3 k x6 j (wrap64 (b + 1)) h i a c d (Go.bits .or .i64 e l) g)) else (Zaf.l3 k x6 j (wrap64 (b + 1)) h i a c d e g)) else (none)) else (none)) else (none)) else (none)) else (some (c, d, e, g, j))
end
def Zaf.f (k : Nat) (b : Int) (a : List (List Int)) (c : List Bool) : Option (Int × Int × Int × (List (List Int)) × Int) := (Zap.f k b a c).bind fun d => (if 0 ≤ (wrap64 ((a.length : Int) + 1)) then (if (wrap64 ((a.length : Int) + 1) : Int).toNat ≤ 35184372088832 then (Zaf.l0 k d (([0] : List Int)) (List.replicate (wrap64 ((a.length : Int) + 1) : Int).toNat 0) 0 b a c b 0 0) else (none)) else (none))
def Zaf.T18 : Bool × List (List Nat × List Nat) := (true, [([], []), ([], []), ([1], [1]), ([], []), ([], []), ([3, 4], [3, 4]), ([5], [5]), ([2, 6], [2, 6]), ([7], [7]), ([], []), ([8, 9], [8, 9]), ([10], [10]), ([0, 11], [0, 11]), ([12, 12, 0, 1, 2, 3, 4, 5, 6, 7, 8, 9, 10, 11, 12], [12])])
def Zaf.B18 : List Nat := [0, 0, 2, 0, 0, 24, 56, 126, 254, 0, 1022, 2046, 4095, 8191]
theorem Zaf.tab18 : rtab .any (opsOf Tryd.f46 18) = Zaf.T18 := by kernel_rfl
theorem Zaf.bits18 : Zck Zaf.T18.2 Zaf.B18 = true := by kernel_rfl
def Zaf.T23 : Bool × List (List Nat × List Nat) := (true, [([], []), ([], []), ([1], [1]), ([], []), ([], []), ([3, 4], [3, 4]), ([5], [5]), ([2, 6], [2, 6]), ([7], [7]), ([], []), ([8, 9], [8, 9]), ([10], [10]), ([11], [11]), ([0, 12], [0, 12]), ([13, 13, 0, 1, 2, 3, 4, 5, 6, 7, 8, 9, 10, 11, 12, 13], [0, 3, 13])])
def Zaf.B23 : List Nat := [0, 0, 2, 0, 0, 24, 56, 126, 254, 0, 1022, 2046, 4094, 8191, 16383]
theorem Zaf.tab23 : rtab .any (opsOf Tryd.f46 23) = Zaf.T23 := by kernel_rfl
theorem Zaf.bits23 : Zck Zaf.T23.2 Zaf.B23 = true := by kernel_rfl
def Zaf.T32 : Bool × List (List Nat × List Nat) := (true, [([], []), ([0], [0]), ([], []), ([], []), ([2, 3], [2, 3]), ([4], [4]), ([1, 5], [1, 5]), ([6], [6])])
def Zaf.B32 : List Nat := [0, 1, 0, 0, 12, 28, 63, 127]
theorem Zaf.tab32 : rtab .any (opsOf Tryd.f46 32) = Zaf.T32 := by kernel_rfl
theorem Zaf.bits32 : Zck Zaf.T32.2 Zaf.B32 = true := by kernel_rfl
set_option maxHeartbeats 8000000 in
set_option maxRecDepth 100000 in
theorem Zaf.calls (k : Nat) (s : Int) (ap : Option Addr) (ag : Nat) (A : List (List Int)) (ak : Option Addr) (ah : Nat) (P : List Bool) (r1 : Int) (r2 : Int) (r3 : Int) (r4 : List (List Int)) (r5 : Int) (w : World) (cU : Kd.C (Kd.slice 2 (Kd.int .i64)) w ap A.length A) (cV : A.length ≤ ag) (cW : Kd.C Kd.bool w ak P.length P) (cX : P.length ≤ ah) (h : Zaf.f k s A P = some (r1, r2, r3, r4, r5)) :
  Calls Tryd.prog 46 #[.agg #[.int .i64 s, .slice ap A.length ag, .slice ak P.length ah]] w fun e w' => ∃ fM : Value, e = .returned (.tuple #[.agg #[.int .i64 r1, .int .i64 r2, .int .i64 r3, fM], .int .i64 r5]) ∧ Kd.S (Kd.slice 2 (Kd.int .i64)) 22 w' w.heap.size (fun _ => True) fM r4 ∧ Below w.heap.size w w' := by
 have ix := Tryd.underlying69
 have iy := Tryd.underlying34
 have bT := mA cU
 have eV := mA cV
 clear cU cV
 have bU := mA cW
 have eX := mA cX
 clear cW cX
 have HB := mA (Below.refl w.heap.size w)
 unfold Zaf.f at h
 have H := h
 clear h
 replace H := bE H
 obtain ⟨r, fN, H⟩ := H
 have A2 := mA fN
 clear fN
 obtain ⟨ba, bV⟩ : ∃ y_ : List Int, y_ = (([0] : List Int)) := ⟨_, rfl⟩
 rw [← bV] at H
 have cY := mA bV
 clear bV
 obtain ⟨a5, bb⟩ : ∃ j_ : Int, (wrap64 ((A.length : Int) + 1)) = j_ := ⟨_, rfl⟩
 replace H : (if 0 ≤ (a5) then (if (a5 : Int).toNat ≤ 35184372088832 then (Zaf.l0 k r ba (List.replicate (a5 : Int).toNat 0) 0 s A P s 0 0) else (none)) else (none)) = some (r1, r2, r3, r4, r5) := by first | (rw [bb] at H; exact H) | (simp only [bb] at H ⊢; exact H)
 (try rw [bb] at A2)
 have hR : (IntKind.i64.wrap ((A.length : Int) + 1)) = a5 := (Zby _).trans bb
 by_cases c4 : 0 ≤ (a5); rotate_left
 ·rw [if_neg c4] at H
  exact absurd H (by simp)
 rw [if_pos c4] at H
 have fR := eq_true c4
 have fS := dT c4
 clear c4
 by_cases c5 : (a5 : Int).toNat ≤ 35184372088832; rotate_left
 ·rw [if_neg c5] at H
  exact absurd H (by simp)
 rw [if_pos c5] at H
 have fT := eq_true c5
 have fU := dT c5
 clear c5
 obtain ⟨fV, bX⟩ : ∃ y_ : List Int, y_ = (List.replicate (a5 : Int).toNat 0) := ⟨_, rfl⟩
 rw [← bX] at H
 have cZ := mA bX
 clear bX
 have H' := mA H
 clear H
 go_enter Tryd.func46, Tryd.ntmps46
 go_wp2_with (first | ((with_reducible refine Zao (N := 1) rfl ?_); refine boxS (N := 1) (cs := #[.int .i64 s, .slice ap A.length ag, .slice ak P.length ah]) (t := 69) ?_; intro O hg w6 hbox hb; have c := mA (hbox); have hS := geW (w := w) hg; have hT := geW (w := w) hg; replace HB := mA (Zac (bW) hb); clear hb hbox hg) | ((with_reducible refine Zao (N := 2) rfl ?_); refine boxS (N := 2) (cs := #[.int .i64 0, .int .i64 0, .int .i64 0, .slice none 0 0]) (t := 34) ?_; intro W hg w7 hbox hb; have m := mA (hbox); have hU := geW (w := w) hg; have hV := geW (w := w) hg; replace HB := mA (Zac (bW) hb); have av := mA (neB hg c); have aw := mA (neC hg c); replace c := mA (blkB c.out hb); clear hb hbox hg; have iz := av.out; have iA := aw.out; obtain ⟨ek, el, em⟩ := cells3 c.out; obtain ⟨en, eo, ep⟩ := frz3 c.out) | ((with_reducible refine Zaw (f := 68) rfl ?_); refine Zbq (some 16) Tryd.func68 #[.agg #[.int .i64 s, .slice ap A.length ag, .slice ak P.length ah]] ?_; (with_reducible refine (Zap.calls k s _ _ A _ _ P r _ ?side1 ?side2 ?side3 ?side4 A2.out).mono ?_); (case side1 => exact cP (zE bT.out HB.out)); (case side2 => exact eV.out); (case side3 => exact cP (zE bU.out HB.out)); (case side4 => exact eX.out); rintro e iX ⟨br, rfl, fO, hb⟩; refine ⟨_, rfl, ?_⟩; have aA := mA (zN fO (Zah (bW))); replace c := mA (blkB c.out hb); replace m := mA (blkB m.out hb); replace HB := mA (Zac (bW) hb); (try clear hb); (try clear hb2); (try clear hk); (try clear hi); (try clear fO); obtain ⟨dS, dU, dV⟩ := cells3 c.out; obtain ⟨dW, dX, dY⟩ := frz3 c.out) | ((with_reducible refine Zao (N := 5) rfl ?_); refine boxS (N := 5) (cs := #[.int .i64 0, .int .i64 0, .int .i64 0, .slice none 0 0]) (t := 34) ?_; intro E hg iY hbox hb; replace aA := mA (zI (rP aA.out) hb); have d := mA (hbox); have hW := geW (w := w) hg; have hX := geW (w := w) hg; replace HB := mA (Zac (bW) hb); have ae := mA (neB hg c); have ax := mA (neC hg c); replace c := mA (blkB c.out hb); have af := mA (neB hg m); have ay := mA (neC hg m); replace m := mA (blkB m.out hb); clear hb hbox hg; have hY := ax.out; have hZ := ae.out; have h0 := ay.out; have h1 := af.out; obtain ⟨dZ, d0, d1, d2⟩ := Zbj d.out; obtain ⟨d3, d4, d5, d6⟩ := frz4 d.out) | ((with_reducible refine Zao (N := 20) rfl ?_); refine yM (Kd.int .i64) _ 2 ?hg (N := 20) ?hd (xs := ([0] : List Int)) (inner := [.int .i64 0]) (ok := fun _ => True) (okp := fun _ => True) ?hr ?hp (fun _ hk => hk) trivial (Below.refl _ _) (Nat.le_refl _) (by simp) ?_; (case hd => rfl); (case hg => rfl); (case hr => first | (go_simp; done) | (go_simp; rfl)); (case hp => exact (Reps.one (show Kd.M (Kd.int .i64) _ _ _ 0 [.int .i64 0] from rfl) (Reps.none _ _))); intro aI iZ bd hb hg_ hnew_; clear hg_ hnew_; (first | rw [← cY.out] at bd | (simp only [Int.reduceToNat] at bd; rw [← cY.out] at bd)); have bn := mA (zN (zU bd (zG (by (with_reducible repeat (first | apply zC | apply zD | apply zB)); exact (zA (zM (p := ⟨E, 3, none⟩) (zM (p := ⟨E, 2, none⟩) (zM (p := ⟨E, 1, none⟩) (zM (p := ⟨E, 0, none⟩) (zV aA.out d.out (by decide)) (fun _ hk => hk.2) (.int .i64 s)) (fun _ hk => hk.2) (.int .i64 0)) (fun _ hk => hk.2) (.int .i64 0)) (fun _ hk => hk.2) (.slice none 0 0)) (fun _ h_ => h_.1))))) (Zah (bW))); replace aA := mA (zT (by (with_reducible repeat (first | apply zC | apply zD | apply zB)); exact (zA (zM (p := ⟨E, 3, none⟩) (zM (p := ⟨E, 2, none⟩) (zM (p := ⟨E, 1, none⟩) (zM (p := ⟨E, 0, none⟩) (zV aA.out d.out (by decide)) (fun _ hk => hk.2) (.int .i64 s)) (fun _ hk => hk.2) (.int .i64 0)) (fun _ hk => hk.2) (.int .i64 0)) (fun _ hk => hk.2) (.slice none 0 0)) (fun _ h_ => h_.1))) (zK bd) hb); replace c := mA (Zdl (g := O) (o := .cells #[.int .i64 s, .slice ap A.length ag, .slice ak P.length ah] 69 (0, 0)) (by (with_reducible repeat (first | refine Zaj ?_ _ | refine Zad ?_ | refine Zae ?_ _)); refine Za5 ?_ ae.out _; (with_reducible repeat (first | refine Zaj ?_ _ | refine Zad ?_ | refine Zae ?_ _)); refine Za5 ?_ ae.out _; (with_reducible repeat (first | refine Zaj ?_ _ | refine Zad ?_ | refine Zae ?_ _)); refine Za5 ?_ ae.out _; (with_reducible repeat (first | refine Zaj ?_ _ | refine Zad ?_ | refine Zae ?_ _)); refine Za5 ?_ ae.out _; exact bP c.out) hb); replace m := mA (Zdl (g := W) (o := .cells #[.int .i64 0, .int .i64 0, .int .i64 0, .slice none 0 0] 34 (0, 0)) (by (with_reducible repeat (first | refine Zaj ?_ _ | refine Zad ?_ | refine Zae ?_ _)); refine Za5 ?_ af.out _; (with_reducible repeat (first | refine Zaj ?_ _ | refine Zad ?_ | refine Zae ?_ _)); refine Za5 ?_ af.out _; (with_reducible repeat (first | refine Zaj ?_ _ | refine Zad ?_ | refine Zae ?_ _)); refine Za5 ?_ af.out _; (with_reducible repeat (first | refine Zaj ?_ _ | refine Zad ?_ | refine Zae ?_ _)); refine Za5 ?_ af.out _; exact bP m.out) hb); replace d := mA (Zdl (g := E) (o := .cells #[.int .i64 s, .int .i64 0, .int .i64 0, .slice none 0 0] 34 (0, 0)) (by (with_reducible repeat (first | refine Zaj ?_ _ | refine Zad ?_ | refine Zae ?_ _)); refine Za2 (cs := #[.int .i64 s, .int .i64 0, .int .i64 0, .slice none 0 0]) ?_ 3 _ rfl; (with_reducible repeat (first | refine Zaj ?_ _ | refine Zad ?_ | refine Zae ?_ _)); refine Za2 (cs := #[.int .i64 s, .int .i64 0, .int .i64 0, .slice none 0 0]) ?_ 2 _ rfl; (with_reducible repeat (first | refine Zaj ?_ _ | refine Zad ?_ | refine Zae ?_ _)); refine Za2 (cs := #[.int .i64 s, .int .i64 0, .int .i64 0, .slice none 0 0]) ?_ 1 _ rfl; (with_reducible repeat (first | refine Zaj ?_ _ | refine Zad ?_ | refine Zae ?_ _)); refine Za2 (cs := #[.int .i64 0, .int .i64 0, .int .i64 0, .slice none 0 0]) ?_ 0 _ rfl; exact bP d.out) hb); replace HB := mA (Zac (bW) hb); clear hb bd; obtain ⟨d7, d8, d9⟩ := cells3 c.out; obtain ⟨ea, eb, ec⟩ := frz3 c.out) | ((with_reducible refine Zao (N := 25) rfl ?_); refine xI (Kd.int .i64) _ 2 rfl (N := 25) rfl 22 _ _ rfl a5 rfl rfl Tryd.underlying22 (.int .i64 0) 8 info2 rfl (by decide) (by omega) 0 (ok := fun _ => True) (okp := fun _ => True) rfl (fun _ hk => hk) trivial (ofD) (Nat.le_trans (Nat.mul_le_mul_right _ (ofD : a5.toNat ≤ 35184372088832)) (by omega)) (Below.refl _ _) (Nat.le_refl _) ?_; intro cv i0 aU hb hg_ hnew_; clear hg_ hnew_; (first | rw [← cZ.out] at aU | (simp only [Int.reduceToNat] at aU; rw [← cZ.out] at aU)); have eY := mA (zN (zU (zU aU (zG (rP aA.out))) (zG (rP bn.out))) (Zah (bW))); replace aA := mA (zT (rP aA.out) (zK aU) hb); replace bn := mA (zT (rP bn.out) (zK aU) hb); replace c := mA (blkB c.out hb); replace m := mA (blkB m.out hb); replace d := mA (blkB d.out hb); replace HB := mA (Zac (bW) hb); clear hb aU))
 go_loopg [8] k (fun kq v8 w' => ∃ (al : List Int) (az : Int), v8 = .int .i64 az ∧ Zaa (Zaf.l0 kq r ba al az s A P s 0 0 = some (r1, r2, r3, r4, r5)) ∧ Zaa (kq ≤ k) ∧ Zaa (Kd.R (Kd.int .i64) 2 w' w.heap.size (fun k_ => some k_ ≠ (aI : Value).ownBlock ∧ some k_ ≠ (cv : Value).ownBlock) br r) ∧ Zaa (Kd.R (Kd.int .i64) 2 w' w.heap.size (fun k_ => some k_ ≠ (br : Value).ownBlock ∧ some k_ ≠ (cv : Value).ownBlock) aI ba) ∧ Zaa (Kd.R (Kd.int .i64) 2 w' w.heap.size (fun k_ => some k_ ≠ (br : Value).ownBlock ∧ some k_ ≠ (aI : Value).ownBlock) cv al) ∧ Zaa (w'.heap[O]? = some (.cells #[.int .i64 s, (.slice ap A.length ag), (.slice ak P.length ah)] 69 (0, 0))) ∧ Zaa (w'.heap[W]? = some (.cells #[.int .i64 0, .int .i64 0, .int .i64 0, (.slice none 0 0)] 34 (0, 0))) ∧ Zaa (w'.heap[E]? = some (.cells #[.int .i64 s, .int .i64 0, .int .i64 0, (.slice none 0 0)] 34 (0, 0))) ∧ Zaa (Below w.heap.size w w'))
 case atStart => exact ⟨(fV), (0), (eW), H', ⟨Nat.le_refl _⟩, ⟨by (with_reducible repeat (first | apply zC | apply zD | apply zB)); exact zA aA.out (fun _ hk => ⟨hk.1.2, hk.2⟩)⟩, ⟨by (with_reducible repeat (first | apply zC | apply zD | apply zB)); exact zA bn.out (fun _ hk => ⟨hk.1.2, hk.2⟩)⟩, ⟨by (with_reducible repeat (first | apply zC | apply zD | apply zB)); exact zA eY.out (fun _ hk => ⟨hk.1.2, hk.2⟩)⟩, ⟨bP c.out⟩, ⟨bP m.out⟩, ⟨bP d.out⟩, ⟨bW⟩⟩
 case round =>
  clear H' fR fS fT fU dS dU dV dZ d0 d1 d2 d7 d8 d9 ek el em dW dX dY d3 d4 d5 d6 ea eb ec en eo ep
  obtain ⟨al, az, rfl, HA, au, B, x, u, c, m, d, HB⟩ := hrel
  cases gk with
  | zero => exact absurd HA.out (by simp [Zaf.l0])
  | succ k1 =>
   have H := HA.out
   clear HA
   simp only [Zaf.l0] at H
   by_cases bx : az < (al.length : Int)
   ·rw [if_pos bx] at H
    have c0 := dT bx
    clear bx
    by_cases c1 : 0 ≤ az; rotate_left
    ·rw [if_neg c1] at H
     exact absurd H (by simp)
    rw [if_pos c1] at H
    have h2 := dT c1
    clear c1
    obtain ⟨er, bY⟩ : ∃ y_ : List Int, y_ = (al.set (az : Int).toNat (-1)) := ⟨_, rfl⟩
    rw [← bY] at H
    have eZ := mA bY
    clear bY
    have H' := mA H
    clear H
    obtain ⟨iB, bs, fW⟩ := zJ u.out
    subst fW
    have es : 0 ≤ (az : Int) := ofD
    have et : (az : Int) < ((al.length : Int) : Int) := ofD
    obtain ⟨aV, iC, eu, ev, fX, iD, ew⟩ := yI u.out (by omega)
    (first | cases eu | (injection eu with ea_ en_ ec_; (first | subst ea_ | (injection ea_ with ea_; subst ea_)); subst ec_; clear en_))
    have fY := mA ev
    have iE := mA ew
    clear ev fX ew
    obtain ⟨hy, hz⟩ := yC 0 u.out (az : Int) es et
    replace es := eq_true es
    replace et := eq_true et
    have cw := yG u.out (az : Int) (-1)
    go_wp2_with (first | ((with_reducible refine Zbp (t := 2) (p := 34) rfl ?_); refine Zdk (t := 2) (p := 34) (w1 := (wr.setCell ⟨aV, (az : Int).toNat, none⟩ (.int .i64 (-1)))) ?_; intro ey hw; have hg : wr.grownBy ey (some aV) := (by rw [hw]; exact cw.2); have hp_ : Kd.R (Kd.int .i64) 2 ey w.heap.size (fun k_ => some k_ ≠ (br : Value).ownBlock ∧ some k_ ≠ (aI : Value).ownBlock) (.slice (some ⟨aV, 0, none⟩) al.length bs) er := (by rw [hw, eZ.out]; exact cw.1); clear cw; replace B := mA (zS (v := (.slice (some ⟨aV, 0, none⟩) al.length bs)) (v1 := (.slice (some ⟨aV, 0, none⟩) al.length bs)) (ok := (fun k_ => some k_ ≠ (aI : Value).ownBlock)) (rP B.out) hg (.inl rfl)); replace x := mA (zS (v := (.slice (some ⟨aV, 0, none⟩) al.length bs)) (v1 := (.slice (some ⟨aV, 0, none⟩) al.length bs)) (ok := (fun k_ => some k_ ≠ (br : Value).ownBlock)) (rP x.out) hg (.inl rfl)); replace c := mA (Zar (g := O) (o := .cells #[.int .i64 s, .slice ap A.length ag, .slice ak P.length ah] 69 (0, 0)) (bP c.out) hg (zL u.out c.out (by decide))); replace m := mA (Zar (g := W) (o := .cells #[.int .i64 0, .int .i64 0, .int .i64 0, .slice none 0 0] 34 (0, 0)) (bP m.out) hg (zL u.out m.out (by decide))); replace d := mA (Zar (g := E) (o := .cells #[.int .i64 s, .int .i64 0, .int .i64 0, .slice none 0 0] 34 (0, 0)) (bP d.out) hg (zL u.out d.out (by decide))); replace u := mA (hp_); replace HB := mA ((by rw [hw]; exact Zbr (HB.out) fY.out : Below w.heap.size w ey)); clear hg hw hp_))
    go_roundg k1
    case measure => have := au.out; omega
    case rel => exact ⟨(er), (wrap64 (az + 1)), (eW), H', ⟨by have := au.out; omega⟩, ⟨rP B.out⟩, ⟨rP x.out⟩, ⟨rP u.out⟩, ⟨bP c.out⟩, ⟨bP m.out⟩, ⟨bP d.out⟩, ⟨bW⟩⟩
   rw [if_neg bx] at H
   have c0 := dF bx
   clear bx
   by_cases da : 0 < (r.length : Int); rotate_left
   ·rw [if_neg da] at H
    exact absurd H (by simp)
   rw [if_pos da] at H
   have e0 := dT da
   have e1 : decide (0 < r.length) = true := decide_eq_true (by omega)
   clear da
   have cx := mA H
   clear H
   obtain ⟨ai, G, fZ⟩ := zJ u.out
   subst fZ
   obtain ⟨iG, J, f3⟩ := zJ B.out
   subst f3
   have bZ : 0 ≤ (0 : Int) := (by omega)
   have b0 : 0 < (r.length : Int) := ofD
   obtain ⟨z, f4, bf⟩ := zH (zF B.out).2.2 0 bZ b0
   cases f4
   have h3 : (0 < r.length) = True := eq_true (by omega)
   (try rw [show ((0 : Int)).toNat = 0 from rfl] at bf)
   (try rw [Addr.add_zero'] at bf)
   replace bZ := eq_true bZ
   replace b0 := eq_true b0
   go_upto_if 38 with (fail)
   go_cut [] (fun wc => ∃ (kq : Nat) (aG : List Int), Zaa (Zaf.j1 kq r ba aG s A P s 0 0 = some (r1, r2, r3, r4, r5)) ∧ Zaa (kq ≤ k1) ∧ Zaa (Kd.R (Kd.int .i64) 2 wc w.heap.size (fun k_ => some k_ ≠ (aI : Value).ownBlock ∧ some k_ ≠ ((.slice ai al.length G) : Value).ownBlock) (.slice (some z) r.length J) r) ∧ Zaa (Kd.R (Kd.int .i64) 2 wc w.heap.size (fun k_ => some k_ ≠ ((.slice (some z) r.length J) : Value).ownBlock ∧ some k_ ≠ ((.slice ai al.length G) : Value).ownBlock) aI ba) ∧ Zaa (Kd.R (Kd.int .i64) 2 wc w.heap.size (fun k_ => some k_ ≠ ((.slice (some z) r.length J) : Value).ownBlock ∧ some k_ ≠ (aI : Value).ownBlock) (.slice ai al.length G) aG) ∧ Zaa (wc.heap[O]? = some (.cells #[.int .i64 s, (.slice ap A.length ag), (.slice ak P.length ah)] 69 (0, 0))) ∧ Zaa (wc.heap[W]? = some (.cells #[.int .i64 0, .int .i64 0, .int .i64 0, (.slice none 0 0)] 34 (0, 0))) ∧ Zaa (wc.heap[E]? = some (.cells #[.int .i64 s, .int .i64 0, .int .i64 0, (.slice none 0 0)] 34 (0, 0))) ∧ Zaa (Below w.heap.size w wc))
   case first =>
    have H := cx.out
    clear cx
    by_cases bz : (rd r 0) ≥ 0; rotate_left
    ·rw [if_neg bz] at H
     have a6 : decide (0 ≤ (rd r 0)) = false := dF bz
     clear bz
     (first | rw [a6] | (simp only [Zby, i32_w]; rw [a6]) | skip)
     have H' := mA H
     clear H
     go_wp2
     go_meet
     case rel => exact ⟨_, (al), H', ⟨by have := au.out; first | omega | exact Nat.le_refl _⟩, ⟨rP B.out⟩, ⟨rP x.out⟩, ⟨rP u.out⟩, ⟨bP c.out⟩, ⟨bP m.out⟩, ⟨bP d.out⟩, ⟨bW⟩⟩
    rw [if_pos bz] at H
    have a6 : decide (0 ≤ (rd r 0)) = true := dT bz
    clear bz
    (first | rw [a6] | (simp only [Zby, i32_w]; rw [a6]) | skip)
    by_cases db : 0 ≤ (rd r 0); rotate_left
    ·rw [if_neg db] at H
     exact absurd H (by simp)
    rw [if_pos db] at H
    have h4 := dT db
    clear db
    by_cases dc : (rd r 0) < (al.length : Int); rotate_left
    ·rw [if_neg dc] at H
     exact absurd H (by simp)
    rw [if_pos dc] at H
    have h5 := dT dc
    clear dc
    obtain ⟨ez, b1⟩ : ∃ y_ : List Int, y_ = (al.set ((rd r 0) : Int).toNat 0) := ⟨_, rfl⟩
    rw [← b1] at H
    have e2 := mA b1
    clear b1
    have H' := mA H
    clear H
    have cy : 0 ≤ (0 : Int) := (by omega)
    have cz : 0 < (r.length : Int) := ofD
    obtain ⟨e3, f5, bA⟩ := zH (zF B.out).2.2 0 cy cz
    obtain rfl : z = e3 := (by injection f5)
    have h6 : (0 < r.length) = True := eq_true (by omega)
    (try rw [show ((0 : Int)).toNat = 0 from rfl] at bA)
    (try rw [Addr.add_zero'] at bA)
    replace cy := eq_true cy
    replace cz := eq_true cz
    have eA : 0 ≤ ((rd r 0) : Int) := ofD
    have eB : ((rd r 0) : Int) < ((al.length : Int) : Int) := ofD
    obtain ⟨aW, iH, eC, eD, f6, iI, eE⟩ := yI u.out (by omega)
    (first | cases eC | (injection eC with ea_ en_ ec_; (first | subst ea_ | (injection ea_ with ea_; subst ea_)); subst ec_; clear en_))
    have f7 := mA eD
    have iJ := mA eE
    clear eD f6 eE
    obtain ⟨hA, hB⟩ := yC 0 u.out ((rd r 0) : Int) eA eB
    replace eA := eq_true eA
    replace eB := eq_true eB
    have cA := yG u.out ((rd r 0) : Int) 0
    go_wp2_with (first | ((with_reducible refine Zbp (t := 2) (p := 43) rfl ?_); refine Zdk (t := 2) (p := 43) (w1 := (wr.setCell ⟨aW, ((rd r 0) : Int).toNat, none⟩ (.int .i64 0))) ?_; intro eF hw; have hg : wr.grownBy eF (some aW) := (by rw [hw]; exact cA.2); have hp_ : Kd.R (Kd.int .i64) 2 eF w.heap.size (fun k_ => some k_ ≠ (.slice (some z) r.length J : Value).ownBlock ∧ some k_ ≠ (aI : Value).ownBlock) (.slice (some ⟨aW, 0, none⟩) al.length G) ez := (by rw [hw, e2.out]; exact cA.1); clear cA; replace B := mA (zS (v := (.slice (some ⟨aW, 0, none⟩) al.length G)) (v1 := (.slice (some ⟨aW, 0, none⟩) al.length G)) (ok := (fun k_ => some k_ ≠ (aI : Value).ownBlock)) (rP B.out) hg (.inl rfl)); replace x := mA (zS (v := (.slice (some ⟨aW, 0, none⟩) al.length G)) (v1 := (.slice (some ⟨aW, 0, none⟩) al.length G)) (ok := (fun k_ => some k_ ≠ (.slice (some z) r.length J : Value).ownBlock)) (rP x.out) hg (.inl rfl)); replace c := mA (Zar (g := O) (o := .cells #[.int .i64 s, .slice ap A.length ag, .slice ak P.length ah] 69 (0, 0)) (bP c.out) hg (zL u.out c.out (by decide))); replace m := mA (Zar (g := W) (o := .cells #[.int .i64 0, .int .i64 0, .int .i64 0, .slice none 0 0] 34 (0, 0)) (bP m.out) hg (zL u.out m.out (by decide))); replace d := mA (Zar (g := E) (o := .cells #[.int .i64 s, .int .i64 0, .int .i64 0, .slice none 0 0] 34 (0, 0)) (bP d.out) hg (zL u.out d.out (by decide))); replace u := mA (hp_); replace HB := mA ((by rw [hw]; exact Zbr (HB.out) f7.out : Below w.heap.size w eF)); clear hg hw hp_))
    go_meet
    case rel => exact ⟨_, (ez), H', ⟨by have := au.out; first | omega | exact Nat.le_refl _⟩, ⟨rP B.out⟩, ⟨rP x.out⟩, ⟨rP u.out⟩, ⟨bP c.out⟩, ⟨bP m.out⟩, ⟨bP d.out⟩, ⟨bW⟩⟩
   case rest =>
    clear cx c0 e0 e1 bf bZ b0
    obtain ⟨kq, aG, HA, aq, B, x, u, c, m, d, HB⟩ := hcut
    have a := (zF u.out).1
    rw [a] at u
    (try simp only [a])
    (try simp only [a] at c)
    (try simp only [a] at m)
    (try simp only [a] at d)
    (try simp only [a] at B)
    (try simp only [a] at x)
    cases kq with
    | zero => exact absurd HA.out (by simp [Zaf.j1])
    | succ eG =>
     have H := HA.out
     clear HA
     simp only [Zaf.j1] at H
     have H' := mA H
     clear H
     go_wp2
     go_loopg [6, 9] eG (fun kq v6 v9 w' => ∃ (aa : List Int) (aJ : List Int) (I : Int) (X : List (List Int)) (T : Value), v9 = .int .i64 I ∧ Zaa (Zaf.l1 kq r aa aJ I s A P s 0 0 X = some (r1, r2, r3, r4, r5)) ∧ Zaa (kq ≤ eG) ∧ Zaa (Kd.R (Kd.int .i64) 2 w' w.heap.size (fun k_ => some k_ ≠ (v6 : Value).ownBlock ∧ some k_ ≠ ((.slice ai aG.length G) : Value).ownBlock) (.slice (some z) r.length J) r) ∧ Zaa (Kd.R (Kd.int .i64) 2 w' w.heap.size (fun k_ => some k_ ≠ ((.slice (some z) r.length J) : Value).ownBlock ∧ some k_ ≠ ((.slice ai aG.length G) : Value).ownBlock) v6 aa) ∧ Zaa (Kd.R (Kd.int .i64) 2 w' w.heap.size (fun k_ => some k_ ≠ ((.slice (some z) r.length J) : Value).ownBlock ∧ some k_ ≠ (v6 : Value).ownBlock) (.slice ai aG.length G) aJ) ∧ Zaa (Kd.S (Kd.slice 2 (Kd.int .i64)) 22 w' w.heap.size (fun k_ => some k_ ≠ ((.slice (some z) r.length J) : Value).ownBlock ∧ some k_ ≠ (v6 : Value).ownBlock ∧ some k_ ≠ ((.slice ai aG.length G) : Value).ownBlock) T X) ∧ Zaa (w'.heap[O]? = some (.cells #[.int .i64 s, (.slice ap A.length ag), (.slice ak P.length ah)] 69 (0, 0))) ∧ Zaa (w'.heap[W]? = some (.cells #[.int .i64 0, .int .i64 0, .int .i64 0, (.slice none 0 0)] 34 (0, 0))) ∧ Zaa (w'.heap[E]? = some (.cells #[.int .i64 s, .int .i64 0, .int .i64 0, T] 34 (0, 0))) ∧ Zaa (Below w.heap.size w w'))
     case atStart => exact ⟨(ba), (aG), (0), (([] : List (List Int))), (.slice none 0 0), (eW), H', ⟨Nat.le_refl _⟩, ⟨by (try simp only [a]); exact rP B.out⟩, ⟨by (try simp only [a]); exact rP x.out⟩, ⟨by (try simp only [a]); exact rP u.out⟩, ⟨by (try simp only [a]); first | exact Kd.S_nil _ _ _ _ _ | exact Kd.N_nil _ _ _ _ _ | exact Kd.V_nil _ _ _ _ _ | exact Kd.Q_nil _ _ _ _ _ | exact yU _ _ _ _ _⟩, ⟨by (try simp only [a]); exact bP c.out⟩, ⟨by (try simp only [a]); exact bP m.out⟩, ⟨by (try simp only [a]); exact bP d.out⟩, ⟨bW⟩⟩
     case round =>
      clear H'
      obtain ⟨aa, aJ, I, X, T, rfl, HA, aH, B, x, u, l, c, m, d, HB⟩ := hrel
      have j := (zF u.out).1
      rw [j] at u
      (try simp only [j])
      (try simp only [j] at c)
      (try simp only [j] at m)
      (try simp only [j] at d)
      (try simp only [j] at B)
      (try simp only [j] at x)
      (try simp only [j] at l)
      cases gk with
      | zero => exact absurd HA.out (by simp [Zaf.l1])
      | succ k3 =>
       have H := HA.out
       clear HA
       simp only [Zaf.l1] at H
       by_cases bB : I < (aa.length : Int); rotate_left
       ·rw [if_neg bB] at H
        have a7 := dF bB
        (try (have b2 := a7; simp only [a, j] at b2))
        clear bB
        by_cases bC : (aa.length : Int) > 16
        ·rw [if_pos bC] at H
         have bo : decide (16 < (aa.length : Int)) = true := dT bC
         (try (have b3 := bo; simp only [a, j] at b3))
         have bp : decide (16 < aa.length) = true := decide_eq_true (by omega)
         (try (have b4 := bp; simp only [a, j] at b4))
         clear bC
         simp only [Option.some.injEq, Prod.mk.injEq] at H
         obtain ⟨rfl, rfl, rfl, rfl, rfl⟩ := H
         obtain ⟨iK, iL, f8⟩ := zJ x.out
         subst f8
         have h7 := aw.out
         have h8 := av.out
         have h9 := af.out
         have ia := ay.out
         have gS : wr.cell? ⟨W, 0, none⟩ = some (.int .i64 0) := bc m 0
         have gT : wr.cell? ⟨W, 1, none⟩ = some (.int .i64 0) := bc m 1
         have gU : wr.cell? ⟨W, 2, none⟩ = some (.int .i64 0) := bc m 2
         have gV : wr.cell? ⟨W, 3, none⟩ = some (.slice none 0 0) := bc m 3
         have gW := Zab m.out 0
         have gX := Zab m.out 1
         have gY := Zab m.out 2
         have gZ := Zab m.out 3
         go_wp2
         refine bodyPost_ret (results_ct rfl _ _ W 34 #[.int .i64 0, .int .i64 0, .int .i64 0, .slice none 0 0] (0, 0) _ rfl (by (with_reducible repeat (first | refine Zaj ?_ _ | refine Zad ?_ | refine Zae ?_ _)); refine Za2 (cs := #[.int .i64 0, .int .i64 0, .int .i64 0, .slice none 0 0]) ?_ 3 _ rfl; (with_reducible repeat (first | refine Zaj ?_ _ | refine Zad ?_ | refine Zae ?_ _)); refine Za2 (cs := #[.int .i64 0, .int .i64 0, .int .i64 0, .slice none 0 0]) ?_ 2 _ rfl; (with_reducible repeat (first | refine Zaj ?_ _ | refine Zad ?_ | refine Zae ?_ _)); refine Za2 (cs := #[.int .i64 0, .int .i64 0, .int .i64 0, .slice none 0 0]) ?_ 1 _ rfl; (with_reducible repeat (first | refine Zaj ?_ _ | refine Zad ?_ | refine Zae ?_ _)); refine Za2 (cs := #[.int .i64 0, .int .i64 0, .int .i64 0, .slice none 0 0]) ?_ 0 _ rfl; exact bP m.out) Tryd.underlying34 rfl (by kernel_rfl)) rfl ?_
         exact ⟨_, by first | rfl | (simp [errW_none, errW_some] <;> rfl) | (simp only [← bb]; first | rfl | (simp [errW_none, errW_some] <;> rfl)) | (simp [*, errW_none, errW_some] <;> rfl), by first | exact Kd.S_nil _ _ _ _ _ | exact Kd.N_nil _ _ _ _ _ | exact Kd.V_nil _ _ _ _ _ | exact Kd.Q_nil _ _ _ _ _ | exact yU _ _ _ _ _, bW⟩
        rw [if_neg bC] at H
        have bo : decide (16 < (aa.length : Int)) = false := dF bC
        (try (have b3 := bo; simp only [a, j] at b3))
        have bp : decide (16 < aa.length) = false := decide_eq_false (by omega)
        (try (have b4 := bp; simp only [a, j] at b4))
        clear bC
        have H' := mA H
        clear H
        obtain ⟨eH, eI, f9⟩ := zJ x.out
        subst f9
        go_wp2
        go_loopg [14] k3 (fun kq v14 w' => ∃ (U : Int) (ab : Int), v14 = .int .i64 U ∧ Zaa (Zaf.l3 kq aa (aa.length : Int) U s A P s 0 ab X = some (r1, r2, r3, r4, r5)) ∧ Zaa (kq ≤ k3) ∧ Zaa (Kd.R (Kd.int .i64) 2 w' w.heap.size (fun _ => True) (.slice eH aa.length eI) aa) ∧ Zaa (Kd.S (Kd.slice 2 (Kd.int .i64)) 22 w' w.heap.size (fun k_ => some k_ ≠ ((.slice eH aa.length eI) : Value).ownBlock) T X) ∧ Zaa (w'.heap[O]? = some (.cells #[.int .i64 s, (.slice ap A.length ag), (.slice ak P.length ah)] 69 (0, 0))) ∧ Zaa (w'.heap[W]? = some (.cells #[.int .i64 0, .int .i64 0, .int .i64 0, (.slice none 0 0)] 34 (0, 0))) ∧ Zaa (w'.heap[E]? = some (.cells #[.int .i64 s, .int .i64 0, .int .i64 ab, T] 34 (0, 0))) ∧ Zaa (Below w.heap.size w w'))
        case atStart => exact ⟨(0), (0), (eW), H', ⟨Nat.le_refl _⟩, ⟨by (try simp only [a]); (try simp only [j]); (with_reducible repeat (first | apply zC | apply zD | apply zB)); exact zA x.out (fun _ hk => trivial)⟩, ⟨by (try simp only [a]); (try simp only [j]); (with_reducible repeat (first | apply yD | apply yE | apply zW)); exact yB l.out (fun _ hk => hk.2.1)⟩, ⟨by (try simp only [a]); (try simp only [j]); exact bP c.out⟩, ⟨by (try simp only [a]); (try simp only [j]); exact bP m.out⟩, ⟨by (try simp only [a]); (try simp only [j]); exact bP d.out⟩, ⟨bW⟩⟩
        case round =>
         clear H' a7 bo bp
         obtain ⟨U, ab, rfl, HA, aE, x, l, c, m, d, HB⟩ := hrel
         cases gk with
         | zero => exact absurd HA.out (by simp [Zaf.l3])
         | succ k4 =>
          have H := HA.out
          clear HA
          simp only [Zaf.l3] at H
          by_cases bD : U < (aa.length : Int); rotate_left
          ·rw [if_neg bD] at H
           have b5 := dF bD
           (try (have b6 := b5; simp only [a, j] at b6))
           clear bD
           simp only [Option.some.injEq, Prod.mk.injEq] at H
           obtain ⟨rfl, rfl, rfl, rfl, rfl⟩ := H
           have hC := ax.out
           have hD := ae.out
           have hE := ay.out
           have hF := af.out
           have ga : wr.cell? ⟨E, 0, none⟩ = some (.int .i64 s) := bc d 0
           have gb : wr.cell? ⟨E, 1, none⟩ = some (.int .i64 0) := bc d 1
           have gc : wr.cell? ⟨E, 2, none⟩ = some (.int .i64 ab) := bc d 2
           have gf : wr.cell? ⟨E, 3, none⟩ = some (T) := bc d 3
           have gg := Zab d.out 0
           have gh := Zab d.out 1
           have gi := Zab d.out 2
           have gj := Zab d.out 3
           have hG := aw.out
           have hH := av.out
           have gl : wr.cell? ⟨W, 0, none⟩ = some (.int .i64 0) := bc m 0
           have gm : wr.cell? ⟨W, 1, none⟩ = some (.int .i64 0) := bc m 1
           have gn : wr.cell? ⟨W, 2, none⟩ = some (.int .i64 0) := bc m 2
           have gp : wr.cell? ⟨W, 3, none⟩ = some (.slice none 0 0) := bc m 3
           have gq := Zab m.out 0
           have gr := Zab m.out 1
           have gs := Zab m.out 2
           have gu := Zab m.out 3
           obtain ⟨dd, de, e4⟩ := xC l.out
           subst e4
           go_wp2
           refine bodyPost_ret (results_ct rfl _ _ W 34 #[.int .i64 s, .int .i64 0, .int .i64 ab, .slice dd X.length de] (0, 0) _ rfl (by (with_reducible repeat (first | refine Zaj ?_ _ | refine Zad ?_ | refine Zae ?_ _)); refine Za2 (cs := #[.int .i64 s, .int .i64 0, .int .i64 ab, .slice none 0 0]) ?_ 3 _ rfl; (with_reducible repeat (first | refine Zaj ?_ _ | refine Zad ?_ | refine Zae ?_ _)); refine Za2 (cs := #[.int .i64 s, .int .i64 0, .int .i64 0, .slice none 0 0]) ?_ 2 _ rfl; (with_reducible repeat (first | refine Zaj ?_ _ | refine Zad ?_ | refine Zae ?_ _)); refine Za2 (cs := #[.int .i64 s, .int .i64 0, .int .i64 0, .slice none 0 0]) ?_ 1 _ rfl; (with_reducible repeat (first | refine Zaj ?_ _ | refine Zad ?_ | refine Zae ?_ _)); refine Za2 (cs := #[.int .i64 0, .int .i64 0, .int .i64 0, .slice none 0 0]) ?_ 0 _ rfl; exact bP m.out) Tryd.underlying34 rfl (by kernel_rfl)) rfl ?_
           exact ⟨_, by first | rfl | (simp [errW_none, errW_some] <;> rfl) | (simp only [← bb]; first | rfl | (simp [errW_none, errW_some] <;> rfl)) | (simp [*, errW_none, errW_some] <;> rfl), by (with_reducible repeat (first | apply yD | apply yE | apply zW)); exact yB (zY (p := ⟨W, 3, none⟩) (zY (p := ⟨W, 2, none⟩) (zY (p := ⟨W, 1, none⟩) (zY (p := ⟨W, 0, none⟩) (yR l.out m.out (by decide)) (fun _ hk => hk.2) (.int .i64 s)) (fun _ hk => hk.2) (.int .i64 0)) (fun _ hk => hk.2) (.int .i64 ab)) (fun _ hk => hk.2) (.slice dd X.length de)) (fun _ hk => trivial), bW⟩
          rw [if_pos bD] at H
          have b5 := dT bD
          (try (have b6 := b5; simp only [a, j] at b6))
          clear bD
          by_cases df : 0 ≤ U; rotate_left
          ·rw [if_neg df] at H
           exact absurd H (by simp)
          rw [if_pos df] at H
          have ib := dT df
          clear df
          by_cases dg : U < (aa.length : Int); rotate_left
          ·rw [if_neg dg] at H
           exact absurd H (by simp)
          rw [if_pos dg] at H
          have e5 := dT dg
          (try (have e6 := e5; simp only [a, j] at e6))
          clear dg
          by_cases dh : 0 ≤ (rd aa U); rotate_left
          ·rw [if_neg dh] at H
           exact absurd H (by simp)
          rw [if_pos dh] at H
          have ic := dT dh
          clear dh
          by_cases di : (rd aa U) < (P.length : Int); rotate_left
          ·rw [if_neg di] at H
           exact absurd H (by simp)
          rw [if_pos di] at H
          have e7 := dT di
          (try (have e8 := e7; simp only [a, j] at e8))
          clear di
          obtain ⟨e9, bu⟩ : ∃ b_ : Bool, b_ = (rdOf false P (rd aa U)) := ⟨_, rfl⟩
          rw [← bu] at H
          have cr := mA bu
          clear bu
          by_cases b7 : e9 = true; rotate_left
          ·replace b7 := Bool.eq_false_iff.mpr b7
           subst b7
           rw [iF] at H
           have H' := mA H
           clear H
           try go_wp2
           replace x := mA (zB x.out)
           replace l := mA (zW l.out)
           replace c := mA (Zad c.out)
           replace m := mA (Zad m.out)
           replace d := mA (Zad d.out)
           replace HB := mA (Zax HB.out)
           have aX : 0 ≤ (U : Int) := ofD
           have aY : U < (aa.length : Int) := ofD
           obtain ⟨b8, cC, aK⟩ := zH (zF x.out).2.2 U aX aY
           cases cC
           replace aX := eq_true aX
           replace aY := eq_true aY
           have aZ : 0 ≤ ((rd aa U) : Int) := ofD
           have a0 : (rd aa U) < (P.length : Int) := ofD
           obtain ⟨a8, cD, aj⟩ := zZ bU.out (rd aa U) aZ a0
           (try rw [← cr.out] at aj)
           have bg := aj
           cases cD
           replace aj := (HB.out.cell (wB w aj)).trans aj
           replace aZ := eq_true aZ
           replace a0 := eq_true a0
           refine Zcd (n := 8) (S := fun w' => w'.cell? ⟨O, 0, none⟩ = some (.int .i64 s) ∧ w'.cell? ⟨O, 1, none⟩ = some (.slice ap A.length ag) ∧ w'.cell? ⟨O, 2, none⟩ = some (.slice (some a8) P.length ah) ∧ w'.cell? (b8.add (U).toNat) = some (.int .i64 (rd aa U)) ∧ w'.cell? (a8.add ((rd aa U)).toNat) = some (.bool false)) (ds := []) #[false, false, false, false, false, false, false, false] (by kernel_rfl) rfl rfl ⟨bc c 0, bc c 1, bc c 2, aK, (cB HB bg :)⟩ (fun hHeld => ?_); refine Zb8 Zaf.tab32 Zaf.bits32 (fun HT_ HW_ => ?_)
           generalize wr.drew = w106 at x l c m d HB aK aj hHeld ⊢
           refine Zaq (i := 0) (N := some 129) (Zam HT_.out (by kernel_rfl)) ?_
           refine Zaq (i := 2) (N := some 131) (Zam HT_.out (by kernel_rfl)) ?_
           refine Zaq (i := 3) (N := some 132) (Zam HT_.out (by kernel_rfl)) ?_
           refine Zaq (i := 4) (N := some 133) (Zam HT_.out (by kernel_rfl)) ?_
           refine Za7 (i := 1) (N := some 130) (Za1 HT_.out HW_.out (by kernel_rfl)) hHeld ?_
           refine Za7 (i := 5) (N := some 134) (Za1 HT_.out HW_.out (by kernel_rfl)) hHeld ?_
           refine Zaq (i := 6) (N := some 135) (Zam HT_.out (by kernel_rfl)) ?_
           refine Za7 (i := 7) (N := some 136) (Za1 HT_.out HW_.out (by kernel_rfl)) hHeld ?_
           refine Zcx (Zcv HT_.out (by kernel_rfl)) ?_
           try go_wp2
           go_roundg k4
           case measure => have := au.out; have := aq.out; have := aH.out; have := aE.out; omega
           case rel => exact ⟨(wrap64 (U + 1)), (ab), (eW), H', ⟨by have := au.out; have := aq.out; have := aH.out; have := aE.out; omega⟩, ⟨by (try simp only [a]); (try simp only [j]); exact rP x.out⟩, ⟨by (try simp only [a]); (try simp only [j]); exact sP l.out⟩, ⟨by (try simp only [a]); (try simp only [j]); exact bP c.out⟩, ⟨by (try simp only [a]); (try simp only [j]); exact bP m.out⟩, ⟨by (try simp only [a]); (try simp only [j]); exact bP d.out⟩, ⟨bW⟩⟩
          subst b7
          rw [if_pos rfl] at H
          replace H := bE H
          obtain ⟨b9, dj, H⟩ := H
          have gv := mA dj
          clear dj
          have H' := mA H
          clear H
          try go_wp2
          replace x := mA (zB x.out)
          replace l := mA (zW l.out)
          replace c := mA (Zad c.out)
          replace m := mA (Zad m.out)
          replace d := mA (Zad d.out)
          replace HB := mA (Zax HB.out)
          have aX : 0 ≤ (U : Int) := ofD
          have aY : U < (aa.length : Int) := ofD
          obtain ⟨b8, cC, aK⟩ := zH (zF x.out).2.2 U aX aY
          cases cC
          replace aX := eq_true aX
          replace aY := eq_true aY
          have aZ : 0 ≤ ((rd aa U) : Int) := ofD
          have a0 : (rd aa U) < (P.length : Int) := ofD
          obtain ⟨a8, cD, aj⟩ := zZ bU.out (rd aa U) aZ a0
          (try rw [← cr.out] at aj)
          have bg := aj
          cases cD
          replace aj := (HB.out.cell (wB w aj)).trans aj
          replace aZ := eq_true aZ
          replace a0 := eq_true a0
          refine Zcd (n := 8) (S := fun w' => w'.cell? ⟨O, 0, none⟩ = some (.int .i64 s) ∧ w'.cell? ⟨O, 1, none⟩ = some (.slice ap A.length ag) ∧ w'.cell? ⟨O, 2, none⟩ = some (.slice (some a8) P.length ah) ∧ w'.cell? (b8.add (U).toNat) = some (.int .i64 (rd aa U)) ∧ w'.cell? (a8.add ((rd aa U)).toNat) = some (.bool true)) (ds := []) #[false, false, false, false, false, false, false, false] (by kernel_rfl) rfl rfl ⟨bc c 0, bc c 1, bc c 2, aK, (cB HB bg :)⟩ (fun hHeld => ?_); refine Zb8 Zaf.tab32 Zaf.bits32 (fun HT_ HW_ => ?_)
          generalize wr.drew = gw at x l c m d HB aK aj hHeld ⊢
          refine Zaq (i := 0) (N := some 129) (Zam HT_.out (by kernel_rfl)) ?_
          refine Zaq (i := 2) (N := some 131) (Zam HT_.out (by kernel_rfl)) ?_
          refine Zaq (i := 3) (N := some 132) (Zam HT_.out (by kernel_rfl)) ?_
          refine Zaq (i := 4) (N := some 133) (Zam HT_.out (by kernel_rfl)) ?_
          refine Za7 (i := 1) (N := some 130) (Za1 HT_.out HW_.out (by kernel_rfl)) hHeld ?_
          refine Za7 (i := 5) (N := some 134) (Za1 HT_.out HW_.out (by kernel_rfl)) hHeld ?_
          refine Zaq (i := 6) (N := some 135) (Zam HT_.out (by kernel_rfl)) ?_
          refine Za7 (i := 7) (N := some 136) (Za1 HT_.out HW_.out (by kernel_rfl)) hHeld ?_
          refine Zcx (Zcv HT_.out (by kernel_rfl)) ?_
          try go_wp2
          replace x := mA (zB x.out)
          replace l := mA (zW l.out)
          replace c := mA (Zad c.out)
          replace m := mA (Zad m.out)
          replace d := mA (Zad d.out)
          replace HB := mA (Zax HB.out)
          refine Zcd (n := 7) (S := fun w' => w'.cell? ⟨E, 0, none⟩ = some (.int .i64 s) ∧ w'.cell? ⟨E, 1, none⟩ = some (.int .i64 0) ∧ w'.cell? ⟨E, 2, none⟩ = some (.int .i64 ab) ∧ w'.cell? ⟨E, 3, none⟩ = some (T)) (ds := [6]) #[false, false, false, false, false, false, false] (by kernel_rfl) rfl rfl ⟨bc d 0, bc d 1, bc d 2, bc d 3⟩ (fun hHeld => ?_)
          generalize gw.drew = w104 at x l c m d HB hHeld ⊢
          refine Zaq (i := 0) (N := some 137) (by kernel_rfl) ?_
          refine Zaq (i := 2) (N := some 139) (by kernel_rfl) ?_
          refine Za7 (i := 1) (N := some 138) (by kernel_rfl) hHeld ?_
          refine one_ (i := 3) (N := some 140) #[true, true, true, true, false, false, false] rfl rfl (by kernel_rfl) (by decide) (fun K hK => ?_)
          refine Zb0 Tryd.func70 (by kernel_rfl) rfl #[.int .i64 U] (by rfl) rfl rfl (by (try simp only [List.map_toArray, List.map_cons, List.map_nil]); first | done | rfl | (simp only [List.length_drop, List.length_take]; rfl)) ?_
          with_reducible refine (Zdc.calls U b9 _ gv.out).mono ?_
          rintro e w' ⟨rfl, ⟨nd, rfl⟩⟩
          refine ⟨_, rfl, ?_⟩
          refine hK.out _ _ ⟨bc d 0, bc d 1, bc d 2, bc d 3⟩ (fun hHeld => ?_)
          clear hK K
          refine putS 140 ?_
          refine Zaq (i := 4) (N := some 141) (by kernel_rfl) ?_
          refine Zaq (i := 5) (N := some 142) (by kernel_rfl) ?_
          refine last_ (i := 6) (N := none) #[true, true, true, true, true, true, true] rfl rfl (by kernel_rfl) (by decide) (fun K hK => ?_)
          have ie : w104.cell? ⟨E, 2, none⟩ = some (.int .i64 ab) := bc d 2
          have hI := Zab d.out 2
          have gx := ae.out
          have gy := af.out
          have gz := ax.out
          have gA := ay.out
          refine skip_ (w1 := ?_) (by rfl) rfl ?_ ?_
          rotate_left
          ·go_simp
           rfl
          refine hK.out _ _ ?_
          clear hK K
          refine Zcx (by kernel_rfl) ?_
          try go_wp2
          go_roundg k4
          case measure => have := au.out; have := aq.out; have := aH.out; have := aE.out; omega
          case rel => exact ⟨(wrap64 (U + 1)), (Go.bits .or .i64 ab b9), (eW), H', ⟨by have := au.out; have := aq.out; have := aH.out; have := aE.out; omega⟩, ⟨by (try simp only [a]); (try simp only [j]); (with_reducible repeat (first | apply zC | apply zD | apply zB)); exact zA (zM (p := ⟨E, 2, none⟩) (zV x.out d.out (by decide)) (fun _ hk => hk.2) (.int .i64 (Go.bits .or .i64 ab b9))) (fun _ hk => trivial)⟩, ⟨by (try simp only [a]); (try simp only [j]); (with_reducible repeat (first | apply yD | apply yE | apply zW)); exact yB (zY (p := ⟨E, 2, none⟩) (yR l.out d.out (by decide)) (fun _ hk => hk.2) (.int .i64 (Go.bits .or .i64 ab b9))) (fun _ hk => hk.1)⟩, ⟨by (try simp only [a]); (try simp only [j]); (with_reducible repeat (first | refine Zaj ?_ _ | refine Zad ?_ | refine Zae ?_ _)); refine Za5 ?_ ae.out _; exact bP c.out⟩, ⟨by (try simp only [a]); (try simp only [j]); (with_reducible repeat (first | refine Zaj ?_ _ | refine Zad ?_ | refine Zae ?_ _)); refine Za5 ?_ af.out _; exact bP m.out⟩, ⟨by (try simp only [a]); (try simp only [j]); (with_reducible repeat (first | refine Zaj ?_ _ | refine Zad ?_ | refine Zae ?_ _)); refine Za2 (cs := #[.int .i64 s, .int .i64 0, .int .i64 ab, T]) ?_ 2 _ rfl; exact bP d.out⟩, ⟨bW⟩⟩
       rw [if_pos bB] at H
       have a7 := dT bB
       (try (have b2 := a7; simp only [a, j] at b2))
       clear bB
       obtain ⟨eJ, ca⟩ : ∃ y_ : List Int, y_ = (([] : List Int)) := ⟨_, rfl⟩
       replace H : (Zaf.l2 k3 r aa aJ I eJ 0 s A P s 0 0 X) = some (r1, r2, r3, r4, r5) := by rw [ca]; with_reducible exact H
       have dk := mA ca
       clear ca
       have H' := mA H
       clear H
       obtain ⟨iM, iN, gB⟩ := zJ x.out
       subst gB
       go_wp2_with (first | ((with_reducible refine Zao (N := 50) rfl ?_); refine yM (Kd.int .i64) _ 2 ?hg (N := 50) ?hd (xs := ([] : List Int)) (inner := []) (ok := fun _ => True) (okp := fun _ => True) ?hr ?hp (fun _ hk => hk) trivial (Below.refl _ _) (Nat.le_refl _) (by simp) ?_; (case hd => rfl); (case hg => rfl); (case hr => first | (go_simp; done) | (go_simp; rfl)); (case hp => exact (Reps.none _ _)); intro iO i1 aR hb hg_ hnew_; clear hg_ hnew_; (first | rw [← dk.out] at aR | (simp only [Int.reduceToNat] at aR; rw [← dk.out] at aR)); replace l := mA (xJ (sP l.out) (zK aR) hb); have fa := mA (zN (zU (zU (zU aR (zG (rP B.out))) (zG (rP x.out))) (zG (rP u.out))) (Zah (bW))); replace B := mA (zT (rP B.out) (zK aR) hb); replace x := mA (zT (rP x.out) (zK aR) hb); replace u := mA (zT (rP u.out) (zK aR) hb); replace c := mA (blkB c.out hb); replace m := mA (blkB m.out hb); replace d := mA (blkB d.out hb); replace HB := mA (Zac (bW) hb); clear hb aR))
       go_loopg [6, 10, 11] k3 (fun kq v6 v10 v11 w' => ∃ (y : List Int) (D : List Int) (am : List Int) (Y : Int), v11 = .int .i64 Y ∧ Zaa (Zaf.l2 kq r y D I am Y s A P s 0 0 X = some (r1, r2, r3, r4, r5)) ∧ Zaa (kq ≤ k3) ∧ Zaa (Kd.R (Kd.int .i64) 2 w' w.heap.size (fun k_ => some k_ ≠ (v6 : Value).ownBlock ∧ some k_ ≠ ((.slice ai aJ.length G) : Value).ownBlock ∧ some k_ ≠ (v10 : Value).ownBlock) (.slice (some z) r.length J) r) ∧ Zaa (Kd.R (Kd.int .i64) 2 w' w.heap.size (fun k_ => some k_ ≠ ((.slice (some z) r.length J) : Value).ownBlock ∧ some k_ ≠ ((.slice ai aJ.length G) : Value).ownBlock ∧ some k_ ≠ (v10 : Value).ownBlock) v6 y) ∧ Zaa (Kd.R (Kd.int .i64) 2 w' w.heap.size (fun k_ => some k_ ≠ ((.slice (some z) r.length J) : Value).ownBlock ∧ some k_ ≠ (v6 : Value).ownBlock ∧ some k_ ≠ (v10 : Value).ownBlock) (.slice ai aJ.length G) D) ∧ Zaa (Kd.R (Kd.int .i64) 2 w' w.heap.size (fun k_ => some k_ ≠ ((.slice (some z) r.length J) : Value).ownBlock ∧ some k_ ≠ (v6 : Value).ownBlock ∧ some k_ ≠ ((.slice ai aJ.length G) : Value).ownBlock) v10 am) ∧ Zaa (Kd.S (Kd.slice 2 (Kd.int .i64)) 22 w' w.heap.size (fun k_ => some k_ ≠ ((.slice (some z) r.length J) : Value).ownBlock ∧ some k_ ≠ (v6 : Value).ownBlock ∧ some k_ ≠ ((.slice ai aJ.length G) : Value).ownBlock ∧ some k_ ≠ (v10 : Value).ownBlock) T X) ∧ Zaa (w'.heap[O]? = some (.cells #[.int .i64 s, (.slice ap A.length ag), (.slice ak P.length ah)] 69 (0, 0))) ∧ Zaa (w'.heap[W]? = some (.cells #[.int .i64 0, .int .i64 0, .int .i64 0, (.slice none 0 0)] 34 (0, 0))) ∧ Zaa (w'.heap[E]? = some (.cells #[.int .i64 s, .int .i64 0, .int .i64 0, T] 34 (0, 0))) ∧ Zaa (Below w.heap.size w w'))
       case atStart => exact ⟨(aa), (aJ), (eJ), (0), (eW), H', ⟨Nat.le_refl _⟩, ⟨by (try simp only [a]); (try simp only [j]); (with_reducible repeat (first | apply zC | apply zD | apply zB)); exact zA B.out (fun _ hk => ⟨hk.1.1, ⟨hk.1.2, hk.2⟩⟩)⟩, ⟨by (try simp only [a]); (try simp only [j]); (with_reducible repeat (first | apply zC | apply zD | apply zB)); exact zA x.out (fun _ hk => ⟨hk.1.1, ⟨hk.1.2, hk.2⟩⟩)⟩, ⟨by (try simp only [a]); (try simp only [j]); (with_reducible repeat (first | apply zC | apply zD | apply zB)); exact zA u.out (fun _ hk => ⟨hk.1.1, ⟨hk.1.2, hk.2⟩⟩)⟩, ⟨by (try simp only [a]); (try simp only [j]); (with_reducible repeat (first | apply zC | apply zD | apply zB)); exact zA fa.out (fun _ hk => ⟨hk.1.1.2, ⟨hk.1.2, hk.2⟩⟩)⟩, ⟨by (try simp only [a]); (try simp only [j]); (with_reducible repeat (first | apply yD | apply yE | apply zW)); exact yB l.out (fun _ hk => ⟨hk.1.1, ⟨hk.1.2.1, ⟨hk.1.2.2, hk.2⟩⟩⟩)⟩, ⟨by (try simp only [a]); (try simp only [j]); exact bP c.out⟩, ⟨by (try simp only [a]); (try simp only [j]); exact bP m.out⟩, ⟨by (try simp only [a]); (try simp only [j]); exact bP d.out⟩, ⟨bW⟩⟩
       case round =>
        clear H' a7
        obtain ⟨y, D, am, Y, rfl, HA, aE, B, x, u, L, l, c, m, d, HB⟩ := hrel
        have q := (zF u.out).1
        rw [q] at u
        (try simp only [q])
        (try simp only [q] at c)
        (try simp only [q] at m)
        (try simp only [q] at d)
        (try simp only [q] at B)
        (try simp only [q] at x)
        (try simp only [q] at L)
        (try simp only [q] at l)
        cases gk with
        | zero => exact absurd HA.out (by simp [Zaf.l2])
        | succ k4 =>
         have H := HA.out
         clear HA
         simp only [Zaf.l2] at H
         by_cases bF : Y < s; rotate_left
         ·rw [if_neg bF] at H
          have dl := dF bF
          clear bF
          by_cases dm : X.length < 5864062014805; rotate_left
          ·rw [if_neg dm] at H
           exact absurd H (by simp)
          rw [if_pos dm] at H
          have fb := mA dm
          clear dm
          obtain ⟨bh, cb⟩ : ∃ y_ : List (List Int), y_ = (X ++ [am]) := ⟨_, rfl⟩
          rw [← cb] at H
          have fc := mA cb
          clear cb
          have H' := mA H
          clear H
          have ig := av.out
          have ih := aw.out
          have ii := ae.out
          have ij := ax.out
          have g0 : wr.cell? ⟨O, 0, none⟩ = some (.int .i64 s) := bc c 0
          have g1 : wr.cell? ⟨O, 1, none⟩ = some (.slice ap A.length ag) := bc c 1
          have g2 : wr.cell? ⟨O, 2, none⟩ = some (.slice ak P.length ah) := bc c 2
          have g3 := Zab c.out 0
          have g4 := Zab c.out 1
          have g5 := Zab c.out 2
          have ik := ay.out
          have il := af.out
          have g6 : wr.cell? ⟨E, 0, none⟩ = some (.int .i64 s) := bc d 0
          have g7 : wr.cell? ⟨E, 1, none⟩ = some (.int .i64 0) := bc d 1
          have g8 : wr.cell? ⟨E, 2, none⟩ = some (.int .i64 0) := bc d 2
          have g9 : wr.cell? ⟨E, 3, none⟩ = some (T) := bc d 3
          have ha := Zab d.out 0
          have hc := Zab d.out 1
          have he := Zab d.out 2
          have hf := Zab d.out 3
          obtain ⟨eK, eL, gC⟩ := zJ L.out
          subst gC
          go_wp2_with (first | ((with_reducible refine Zb2 (b := .append) (xs := #[.tmp 113, .tmp 115]) rfl ?_); at_builtin; refine Kd.S_append (Kd.slice 2 (Kd.int .i64)) (w0 := w) w.heap.size rfl (.tmp 113) (.tmp 115) 25 22 (.slice none 0 0) 24 rfl Tryd.underlying25 info22 rfl (by decide) (by omega) T X am [.slice eK am.length eL] (fun k_ => some k_ ≠ (.slice (some z) r.length J : Value).ownBlock ∧ some k_ ≠ (u6 : Value).ownBlock ∧ some k_ ≠ (.slice ai D.length G : Value).ownBlock) (fun k_ => some k_ = (.slice eK am.length eL : Value).ownBlock) rfl rfl ?aP (fun k_ hk_ => ((zA (ok' := fun k_ => ((fun k_ => some k_ ≠ (.slice (some z) r.length J : Value).ownBlock ∧ some k_ ≠ (u6 : Value).ownBlock ∧ some k_ ≠ (.slice ai D.length G : Value).ownBlock)) k_ ∧ some k_ ≠ (T : Value).ownBlock) (yP (L.out) (xH l.out) (by decide)) (fun k_ hk => ⟨⟨hk.1.1, ⟨hk.1.2.1, hk.1.2.2⟩⟩, hk.2⟩))).1 k_ hk_.symm) ?aF ?aO ?aB ?aS ?aL ?_; (case aP => exact Kd.M_row (zA (Kd.R_tight rfl (zA (ok' := fun k_ => ((fun k_ => some k_ ≠ (.slice (some z) r.length J : Value).ownBlock ∧ some k_ ≠ (u6 : Value).ownBlock ∧ some k_ ≠ (.slice ai D.length G : Value).ownBlock)) k_ ∧ some k_ ≠ (T : Value).ownBlock) (yP (L.out) (xH l.out) (by decide)) (fun k_ hk => ⟨⟨hk.1.1, ⟨hk.1.2.1, hk.1.2.2⟩⟩, hk.2⟩))) (fun _ h_ => h_))); (case aB => exact (bW)); (case aF => exact (fun k_ hk => ⟨zR (zG (rP B.out)) k_ hk, zR (zG (rP x.out)) k_ hk, zR (zG (rP u.out)) k_ hk⟩)); (case aO => exact (by (with_reducible repeat (first | apply yD | apply yE | apply zW)); exact yB l.out (fun k_ hk => ⟨⟨hk.1, ⟨hk.2.1, hk.2.2.1⟩⟩, fun e_ => hk.2.2.2 e_⟩))); (case aS => exact (Zah (bW))); (case aL => have := fb.out; omega); intro iP i2 ho hb hg hat; rw [← fc.out] at ho; replace B := mA (yF (rP B.out) (xH (sP l.out)) (by decide) hg); replace x := mA (yF (rP x.out) (xH (sP l.out)) (by decide) hg); replace u := mA (yF (rP u.out) (xH (sP l.out)) (by decide) hg); replace c := mA (Zar (g := O) (o := .cells #[.int .i64 s, .slice ap A.length ag, .slice ak P.length ah] 69 (0, 0)) (bP c.out) hg (Kd.S_ne l.out c.out (by decide))); replace m := mA (Zar (g := W) (o := .cells #[.int .i64 0, .int .i64 0, .int .i64 0, .slice none 0 0] 34 (0, 0)) (bP m.out) hg (Kd.S_ne l.out m.out (by decide))); replace d := mA (Zar (g := E) (o := .cells #[.int .i64 s, .int .i64 0, .int .i64 0, T] 34 (0, 0)) (bP d.out) hg (Kd.S_ne l.out d.out (by decide))); replace HB := mA (hb); have dn := mA (ho); clear l L ho hb hg hat; obtain ⟨bv, bw, gD⟩ := xC dn.out; subst gD; obtain ⟨hh, hj, hl, hm⟩ := Zbj d.out; obtain ⟨hn, hq, hs, ht⟩ := frz4 d.out))
          (try simp only [← j, ← q])
          go_roundg k4
          case measure => have := au.out; have := aq.out; have := aH.out; have := aE.out; omega
          case rel => exact ⟨(y), (D), (wrap64 (I + 1)), (bh), (.slice bv bh.length bw), (eW), H', ⟨by have := au.out; have := aq.out; have := aH.out; have := aE.out; omega⟩, ⟨by (try simp only [a]); (try simp only [j]); (try simp only [q]); (with_reducible repeat (first | apply zC | apply zD | apply zB)); exact zA (zM (p := ⟨E, 3, none⟩) (zV B.out d.out (by decide)) (fun _ hk => hk.2) (.slice bv bh.length bw)) (fun _ hk => ⟨hk.1.1, hk.1.2.1⟩)⟩, ⟨by (try simp only [a]); (try simp only [j]); (try simp only [q]); (with_reducible repeat (first | apply zC | apply zD | apply zB)); exact zA (zM (p := ⟨E, 3, none⟩) (zV x.out d.out (by decide)) (fun _ hk => hk.2) (.slice bv bh.length bw)) (fun _ hk => ⟨hk.1.1, hk.1.2.1⟩)⟩, ⟨by (try simp only [a]); (try simp only [j]); (try simp only [q]); (with_reducible repeat (first | apply zC | apply zD | apply zB)); exact zA (zM (p := ⟨E, 3, none⟩) (zV u.out d.out (by decide)) (fun _ hk => hk.2) (.slice bv bh.length bw)) (fun _ hk => ⟨hk.1.1, hk.1.2.1⟩)⟩, ⟨by (try simp only [a]); (try simp only [j]); (try simp only [q]); (with_reducible repeat (first | apply yD | apply yE | apply zW)); exact yB (zY (p := ⟨E, 3, none⟩) (yR dn.out d.out (by decide)) (fun _ hk => hk.2) (.slice bv bh.length bw)) (fun _ hk => ⟨hk.1.1, ⟨hk.1.2.1, hk.1.2.2⟩⟩)⟩, ⟨by (try simp only [a]); (try simp only [j]); (try simp only [q]); (with_reducible repeat (first | refine Zaj ?_ _ | refine Zad ?_ | refine Zae ?_ _)); refine Za5 ?_ ae.out _; exact bP c.out⟩, ⟨by (try simp only [a]); (try simp only [j]); (try simp only [q]); (with_reducible repeat (first | refine Zaj ?_ _ | refine Zad ?_ | refine Zae ?_ _)); refine Za5 ?_ af.out _; exact bP m.out⟩, ⟨by (try simp only [a]); (try simp only [j]); (try simp only [q]); (with_reducible repeat (first | refine Zaj ?_ _ | refine Zad ?_ | refine Zae ?_ _)); refine Za2 (cs := #[.int .i64 s, .int .i64 0, .int .i64 0, T]) ?_ 3 _ rfl; exact bP d.out⟩, ⟨bW⟩⟩
         rw [if_pos bF] at H
         have dl := dT bF
         clear bF
         by_cases dp : 0 ≤ I; rotate_left
         ·rw [if_neg dp] at H
          exact absurd H (by simp)
         rw [if_pos dp] at H
         have fd := dT dp
         clear dp
         by_cases dq : I < (y.length : Int); rotate_left
         ·rw [if_neg dq] at H
          exact absurd H (by simp)
         rw [if_pos dq] at H
         have dr := dT dq
         (try (have fe := dr; simp only [a, j, q] at fe))
         clear dq
         by_cases dt : 0 ≤ (rd y I); rotate_left
         ·rw [if_neg dt] at H
          exact absurd H (by simp)
         rw [if_pos dt] at H
         have ff := dT dt
         clear dt
         by_cases du : (rd y I) < (A.length : Int); rotate_left
         ·rw [if_neg du] at H
          exact absurd H (by simp)
         rw [if_pos du] at H
         have dv := dT du
         (try (have fg := dv; simp only [a, j, q] at fg))
         clear du
         by_cases dw : 0 ≤ Y; rotate_left
         ·rw [if_neg dw] at H
          exact absurd H (by simp)
         rw [if_pos dw] at H
         have fh := dT dw
         clear dw
         by_cases dx : Y < ((Zag A (rd y I)).length : Int); rotate_left
         ·rw [if_neg dx] at H
          exact absurd H (by simp)
         rw [if_pos dx] at H
         have dy := dT dx
         (try (have fi := dy; simp only [a, j, q] at fi))
         clear dx
         replace H := bE H
         obtain ⟨ac, eM, H⟩ := H
         have hJ := mA eM
         clear eM
         have cE := mA H
         clear H
         have im := av.out
         have io := aw.out
         have ip := ae.out
         have iq := ax.out
         have ed : wr.cell? ⟨O, 0, none⟩ = some (.int .i64 s) := bc c 0
         have ee : wr.cell? ⟨O, 1, none⟩ = some (.slice ap A.length ag) := bc c 1
         have ef : wr.cell? ⟨O, 2, none⟩ = some (.slice ak P.length ah) := bc c 2
         have eg := Zab c.out 0
         have eh := Zab c.out 1
         have ei := Zab c.out 2
         try go_wp2
         replace B := mA (zB B.out)
         replace x := mA (zB x.out)
         replace u := mA (zB u.out)
         replace L := mA (zB L.out)
         replace l := mA (zW l.out)
         replace c := mA (Zad c.out)
         replace m := mA (Zad m.out)
         replace d := mA (Zad d.out)
         replace HB := mA (Zax HB.out)
         obtain ⟨iQ, ao, eN⟩ := zJ x.out
         (first | subst eN | (injection eN with fP hL fQ; have hM := fP.symm; have hN := fQ.symm; clear fP hL fQ; subst hM; subst hN))
         have cc : 0 ≤ (I : Int) := ofD
         have cd : I < (y.length : Int) := ofD
         obtain ⟨ad, gE, bi⟩ := zH (zF x.out).2.2 I cc cd
         cases gE
         replace cc := eq_true cc
         replace cd := eq_true cd
         have ce : 0 ≤ ((rd y I) : Int) := ofD
         have cf : (rd y I) < (A.length : Int) := ofD
         obtain ⟨ar, eO, ct, gF, aC, bG, bH⟩ := Zcu bT.out (rd y I) ce cf
         have bj := aC
         cases gF
         replace aC := (HB.out.cell (wB w aC)).trans aC
         have bI := mA bH
         have hu := mA bG
         clear bH bG
         replace ce := eq_true ce
         replace cf := eq_true cf
         have cg : 0 ≤ (Y : Int) := ofD
         have ch : Y < ((Zag A (rd y I)).length : Int) := ofD
         obtain ⟨dz, gG, aD⟩ := zH bI.out Y cg ch
         have bJ := aD
         cases gG
         replace aD := (HB.out.cell (wB w aD)).trans aD
         replace cg := eq_true cg
         replace ch := eq_true ch
         refine Zcd (n := 14) (S := fun w' => w'.cell? ⟨O, 0, none⟩ = some (.int .i64 s) ∧ w'.cell? ⟨O, 1, none⟩ = some (.slice (some ar) A.length ag) ∧ w'.cell? ⟨O, 2, none⟩ = some (.slice ak P.length ah) ∧ w'.cell? (ad.add (I).toNat) = some (.int .i64 (rd y I)) ∧ w'.cell? (ar.add ((rd y I)).toNat) = some (.slice (some dz) (Zag A (rd y I)).length ct) ∧ w'.cell? (dz.add (Y).toNat) = some (.int .i64 (rd (Zag A (rd y I)) Y))) (ds := []) #[false, false, false, false, false, false, false, false, false, false, false, false, false, false] (by kernel_rfl) rfl rfl ⟨bc c 0, bc c 1, bc c 2, bi, (cB HB bj :), (cB HB bJ :)⟩ (fun hHeld => ?_); refine Zb8 Zaf.tab18 Zaf.bits18 (fun HT_ HW_ => ?_)
         generalize wr.drew = w53 at B x u L l c m d HB bI bi aC aD hHeld ⊢
         refine Zaq (i := 0) (N := some 57) (Zam HT_.out (by kernel_rfl)) ?_
         refine Zaq (i := 1) (N := some 58) (Zam HT_.out (by kernel_rfl)) ?_
         refine Zaq (i := 3) (N := some 60) (Zam HT_.out (by kernel_rfl)) ?_
         refine Zaq (i := 4) (N := some 61) (Zam HT_.out (by kernel_rfl)) ?_
         refine Zaq (i := 5) (N := some 62) (Zam HT_.out (by kernel_rfl)) ?_
         refine Zaq (i := 9) (N := some 66) (Zam HT_.out (by kernel_rfl)) ?_
         refine Za7 (i := 2) (N := some 59) (Za1 HT_.out HW_.out (by kernel_rfl)) hHeld ?_
         refine Za7 (i := 6) (N := some 63) (Za1 HT_.out HW_.out (by kernel_rfl)) hHeld ?_
         refine Zaq (i := 7) (N := some 64) (Zam HT_.out (by kernel_rfl)) ?_
         refine Za7 (i := 8) (N := some 65) (Za1 HT_.out HW_.out (by kernel_rfl)) hHeld ?_
         refine Zaq (i := 10) (N := some 67) (Zam HT_.out (by kernel_rfl)) ?_
         refine Za7 (i := 11) (N := some 68) (Za1 HT_.out HW_.out (by kernel_rfl)) hHeld ?_
         refine one_ (i := 12) (N := some 69) #[true, true, true, true, true, true, true, true, true, true, true, true, true, false] rfl rfl (Zbk HT_.out (by kernel_rfl)) (by decide) (fun K hK => ?_)
         refine Zb0 Tryd.func69 (by kernel_rfl) rfl #[.slice (some z) r.length J, .int .i64 (rd (Zag A (rd y I)) Y)] (by rfl) rfl rfl (by (try simp only [List.map_toArray, List.map_cons, List.map_nil]); first | done | rfl | (simp only [List.length_drop, List.length_take]; rfl)) ?_
         with_reducible refine (Zbd.calls _ _ r (rd (Zag A (rd y I)) Y) ac _ ?side1 ?side2 hJ.out).mono ?_
         (case side1 => exact cP ((zF B.out).2.2))
         (case side2 => exact (zF B.out).2.1)
         rintro e w' ⟨rfl, ⟨nd, rfl⟩⟩
         refine ⟨_, rfl, ?_⟩
         refine hK.out _ _ ⟨bc c 0, bc c 1, bc c 2, hHeld.2.2.2.1, (cB HB bj :), (cB HB bJ :)⟩ (fun hHeld => ?_)
         clear hK K
         refine putS 69 ?_
         refine Zaq (i := 13) (N := some 12) (Zam HT_.out (by kernel_rfl)) ?_
         refine Zcx (Zcv HT_.out (by kernel_rfl)) ?_
         go_upto_region 19 with (fail)
         go_cut [77] (fun v77 wc => ∃ (kq : Nat) (a9 : Bool), v77 = .bool a9 ∧ Zaa (Zaf.j4 kq r y D I am Y ac a9 s A P s 0 0 X = some (r1, r2, r3, r4, r5)) ∧ Zaa (kq ≤ k4) ∧ Zaa (Kd.R (Kd.int .i64) 2 wc w.heap.size (fun k_ => some k_ ≠ ((.slice (some ad) y.length ao) : Value).ownBlock ∧ some k_ ≠ ((.slice ai D.length G) : Value).ownBlock ∧ some k_ ≠ (u10 : Value).ownBlock) (.slice (some z) r.length J) r) ∧ Zaa (Kd.R (Kd.int .i64) 2 wc w.heap.size (fun k_ => some k_ ≠ ((.slice (some z) r.length J) : Value).ownBlock ∧ some k_ ≠ ((.slice ai D.length G) : Value).ownBlock ∧ some k_ ≠ (u10 : Value).ownBlock) (.slice (some ad) y.length ao) y) ∧ Zaa (Kd.R (Kd.int .i64) 2 wc w.heap.size (fun k_ => some k_ ≠ ((.slice (some z) r.length J) : Value).ownBlock ∧ some k_ ≠ ((.slice (some ad) y.length ao) : Value).ownBlock ∧ some k_ ≠ (u10 : Value).ownBlock) (.slice ai D.length G) D) ∧ Zaa (Kd.R (Kd.int .i64) 2 wc w.heap.size (fun k_ => some k_ ≠ ((.slice (some z) r.length J) : Value).ownBlock ∧ some k_ ≠ ((.slice (some ad) y.length ao) : Value).ownBlock ∧ some k_ ≠ ((.slice ai D.length G) : Value).ownBlock) u10 am) ∧ Zaa (Kd.S (Kd.slice 2 (Kd.int .i64)) 22 wc w.heap.size (fun k_ => some k_ ≠ ((.slice (some z) r.length J) : Value).ownBlock ∧ some k_ ≠ ((.slice (some ad) y.length ao) : Value).ownBlock ∧ some k_ ≠ ((.slice ai D.length G) : Value).ownBlock ∧ some k_ ≠ (u10 : Value).ownBlock) T X) ∧ Zaa (wc.heap[O]? = some (.cells #[.int .i64 s, (.slice (some ar) A.length ag), (.slice ak P.length ah)] 69 (0, 0))) ∧ Zaa (wc.heap[W]? = some (.cells #[.int .i64 0, .int .i64 0, .int .i64 0, (.slice none 0 0)] 34 (0, 0))) ∧ Zaa (wc.heap[E]? = some (.cells #[.int .i64 s, .int .i64 0, .int .i64 0, T] 34 (0, 0))) ∧ Zaa (Below w.heap.size w wc))
         case first =>
          have H := cE.out
          clear cE
          by_cases dA : 0 < (r.length : Int); rotate_left
          ·rw [if_neg dA] at H
           exact absurd H (by simp)
          rw [if_pos dA] at H
          have ci := dT dA
          (try (have fj := ci; simp only [a, j, q] at fj))
          have fk : decide (0 < r.length) = true := decide_eq_true (by omega)
          (try (have fl := fk; simp only [a, j, q] at fl))
          clear dA
          (first | rw [ci] | (simp only [Zby, i32_w]; rw [ci]) | skip)
          by_cases bK : (rd r 0) < 0
          ·rw [if_pos bK] at H
           have fm := dT bK
           clear bK
           have H' := mA H
           clear H
           have a1 : 0 ≤ (0 : Int) := (by omega)
           have a2 : 0 < (r.length : Int) := ofD
           obtain ⟨cj, cF, aM⟩ := zH (zF B.out).2.2 0 a1 a2
           obtain rfl : z = cj := (by injection cF)
           have fn : (0 < r.length) = True := eq_true (by omega)
           (try rw [show ((0 : Int)).toNat = 0 from rfl] at aM)
           (try rw [Addr.add_zero'] at aM)
           replace a1 := eq_true a1
           replace a2 := eq_true a2
           go_wp2
           go_meet
           case rel => exact ⟨_, (true), (eW), H', ⟨by have := au.out; have := aq.out; have := aH.out; have := aE.out; first | omega | exact Nat.le_refl _⟩, ⟨by (try simp only [a]); (try simp only [j]); (try simp only [q]); exact rP B.out⟩, ⟨by (try simp only [a]); (try simp only [j]); (try simp only [q]); exact rP x.out⟩, ⟨by (try simp only [a]); (try simp only [j]); (try simp only [q]); exact rP u.out⟩, ⟨by (try simp only [a]); (try simp only [j]); (try simp only [q]); exact rP L.out⟩, ⟨by (try simp only [a]); (try simp only [j]); (try simp only [q]); exact sP l.out⟩, ⟨by (try simp only [a]); (try simp only [j]); (try simp only [q]); exact bP c.out⟩, ⟨by (try simp only [a]); (try simp only [j]); (try simp only [q]); exact bP m.out⟩, ⟨by (try simp only [a]); (try simp only [j]); (try simp only [q]); exact bP d.out⟩, ⟨bW⟩⟩
          rw [if_neg bK] at H
          have fm := dF bK
          clear bK
          have H' := mA H
          clear H
          have a1 : 0 ≤ (0 : Int) := (by omega)
          have a2 : 0 < (r.length : Int) := ofD
          obtain ⟨cj, cF, aM⟩ := zH (zF B.out).2.2 0 a1 a2
          obtain rfl : z = cj := (by injection cF)
          have fn : (0 < r.length) = True := eq_true (by omega)
          (try rw [show ((0 : Int)).toNat = 0 from rfl] at aM)
          (try rw [Addr.add_zero'] at aM)
          replace a1 := eq_true a1
          replace a2 := eq_true a2
          go_wp2
          go_meet
          case rel => exact ⟨_, (decide (ac < 0)), (eW), H', ⟨by have := au.out; have := aq.out; have := aH.out; have := aE.out; first | omega | exact Nat.le_refl _⟩, ⟨by (try simp only [a]); (try simp only [j]); (try simp only [q]); exact rP B.out⟩, ⟨by (try simp only [a]); (try simp only [j]); (try simp only [q]); exact rP x.out⟩, ⟨by (try simp only [a]); (try simp only [j]); (try simp only [q]); exact rP u.out⟩, ⟨by (try simp only [a]); (try simp only [j]); (try simp only [q]); exact rP L.out⟩, ⟨by (try simp only [a]); (try simp only [j]); (try simp only [q]); exact sP l.out⟩, ⟨by (try simp only [a]); (try simp only [j]); (try simp only [q]); exact bP c.out⟩, ⟨by (try simp only [a]); (try simp only [j]); (try simp only [q]); exact bP m.out⟩, ⟨by (try simp only [a]); (try simp only [j]); (try simp only [q]); exact bP d.out⟩, ⟨bW⟩⟩
         case rest =>
          clear cE dl fd dr ff dv fh dy ed ee ef eg eh ei bi aC aD cc ce cg cd cf ch
          obtain ⟨kq, a9, rfl, HA, bk, B, x, u, L, l, c, m, d, HB⟩ := hcut
          cases kq with
          | zero => exact absurd HA.out (by simp [Zaf.j4])
          | succ cG =>
           have H := HA.out
           clear HA
           simp only [Zaf.j4] at H
           by_cases dB : a9 = true
           ·subst dB
            rw [if_pos rfl] at H
            by_cases dC : am.length < 17592186044416; rotate_left
            ·rw [if_neg dC] at H
             exact absurd H (by simp)
            rw [if_pos dC] at H
            have fo := mA dC
            clear dC
            obtain ⟨gH, ck⟩ : ∃ y_ : List Int, y_ = (am ++ [(-1)]) := ⟨_, rfl⟩
            rw [← ck] at H
            have fp := mA ck
            clear ck
            have H' := mA H
            clear H
            go_wp2_with (first | ((with_reducible refine Zb2 (b := .append) (xs := #[.tmp 78, .tmp 79]) rfl ?_); at_builtin; refine xU (Kd.int .i64) (w0 := w) w.heap.size rfl (.tmp 78) (.tmp 79) 22 2 (.int .i64 0) 8 rfl Tryd.underlying22 info2 rfl (by decide) (by omega) u10 am (-1) [.int .i64 (-1)] (fun k_ => some k_ ≠ (.slice (some z) r.length J : Value).ownBlock ∧ some k_ ≠ (.slice (some ad) y.length ao : Value).ownBlock ∧ some k_ ≠ (.slice ai D.length G : Value).ownBlock) (fun _ => False) rfl rfl ?aP (fun _ hk => hk.elim) ?aF ?aO ?aB ?aS ?aL ?_; (case aP => exact rfl); (case aB => exact (bW)); (case aF => exact (fun k_ hk => ⟨zR (zG (rP B.out)) k_ hk, zR (zG (rP x.out)) k_ hk, zR (zG (rP u.out)) k_ hk⟩)); (case aO => exact (rP L.out)); (case aS => exact (Zah (bW))); (case aL => have := fo.out; omega); intro iR i3 ho hb hg hat; rw [← fp.out] at ho; replace B := mA (zS (ok := (fun k_ => some k_ ≠ (.slice (some ad) y.length ao : Value).ownBlock ∧ some k_ ≠ (.slice ai D.length G : Value).ownBlock)) (by (with_reducible repeat (first | apply zC | apply zD | apply zB)); exact zA B.out (fun _ hk => ⟨⟨hk.1, hk.2.1⟩, hk.2.2⟩)) hg hat); replace x := mA (zS (ok := (fun k_ => some k_ ≠ (.slice (some z) r.length J : Value).ownBlock ∧ some k_ ≠ (.slice ai D.length G : Value).ownBlock)) (by (with_reducible repeat (first | apply zC | apply zD | apply zB)); exact zA x.out (fun _ hk => ⟨⟨hk.1, hk.2.1⟩, hk.2.2⟩)) hg hat); replace u := mA (zS (ok := (fun k_ => some k_ ≠ (.slice (some z) r.length J : Value).ownBlock ∧ some k_ ≠ (.slice (some ad) y.length ao : Value).ownBlock)) (by (with_reducible repeat (first | apply zC | apply zD | apply zB)); exact zA u.out (fun _ hk => ⟨⟨hk.1, hk.2.1⟩, hk.2.2⟩)) hg hat); replace l := mA (xW (ok := (fun k_ => some k_ ≠ (.slice (some z) r.length J : Value).ownBlock ∧ some k_ ≠ (.slice (some ad) y.length ao : Value).ownBlock ∧ some k_ ≠ (.slice ai D.length G : Value).ownBlock)) (by (with_reducible repeat (first | apply yD | apply yE | apply zW)); exact yB l.out (fun _ hk => ⟨⟨hk.1, ⟨hk.2.1, hk.2.2.1⟩⟩, hk.2.2.2⟩)) hg hat); replace c := mA (Zar (g := O) (o := .cells #[.int .i64 s, .slice (some ar) A.length ag, .slice ak P.length ah] 69 (0, 0)) (bP c.out) hg (zL L.out c.out (by decide))); replace m := mA (Zar (g := W) (o := .cells #[.int .i64 0, .int .i64 0, .int .i64 0, .slice none 0 0] 34 (0, 0)) (bP m.out) hg (zL L.out m.out (by decide))); replace d := mA (Zar (g := E) (o := .cells #[.int .i64 s, .int .i64 0, .int .i64 0, T] 34 (0, 0)) (bP d.out) hg (zL L.out d.out (by decide))); replace HB := mA (hb); have fq := mA (ho); clear L ho hb hg hat))
            (try simp only [← q])
            go_roundg cG
            case measure => have := au.out; have := aq.out; have := aH.out; have := aE.out; have := bk.out; omega
            case rel => exact ⟨(y), (D), (gH), (wrap64 (Y + 1)), (eW), H', ⟨by have := au.out; have := aq.out; have := aH.out; have := aE.out; have := bk.out; omega⟩, ⟨by (try simp only [a]); (try simp only [j]); (try simp only [q]); (with_reducible repeat (first | apply zC | apply zD | apply zB)); exact zA B.out (fun _ hk => ⟨hk.1.1, ⟨hk.1.2, hk.2⟩⟩)⟩, ⟨by (try simp only [a]); (try simp only [j]); (try simp only [q]); (with_reducible repeat (first | apply zC | apply zD | apply zB)); exact zA x.out (fun _ hk => ⟨hk.1.1, ⟨hk.1.2, hk.2⟩⟩)⟩, ⟨by (try simp only [a]); (try simp only [j]); (try simp only [q]); (with_reducible repeat (first | apply zC | apply zD | apply zB)); exact zA u.out (fun _ hk => ⟨hk.1.1, ⟨hk.1.2, hk.2⟩⟩)⟩, ⟨by (try simp only [a]); (try simp only [j]); (try simp only [q]); exact rP fq.out⟩, ⟨by (try simp only [a]); (try simp only [j]); (try simp only [q]); (with_reducible repeat (first | apply yD | apply yE | apply zW)); exact yB l.out (fun _ hk => ⟨hk.1.1, ⟨hk.1.2.1, ⟨hk.1.2.2, hk.2⟩⟩⟩)⟩, ⟨by (try simp only [a]); (try simp only [j]); (try simp only [q]); exact bP c.out⟩, ⟨by (try simp only [a]); (try simp only [j]); (try simp only [q]); exact bP m.out⟩, ⟨by (try simp only [a]); (try simp only [j]); (try simp only [q]); exact bP d.out⟩, ⟨bW⟩⟩
           replace dB := Bool.eq_false_iff.mpr dB
           subst dB
           rw [iF] at H
           by_cases dD : 0 ≤ ac; rotate_left
           ·rw [if_neg dD] at H
            exact absurd H (by simp)
           rw [if_pos dD] at H
           have ir := dT dD
           clear dD
           by_cases dE : ac < (D.length : Int); rotate_left
           ·rw [if_neg dE] at H
            exact absurd H (by simp)
           rw [if_pos dE] at H
           have fr := dT dE
           (try (have fs := fr; simp only [a, j, q] at fs))
           clear dE
           by_cases bL : (rd D ac) < 0; rotate_left
           ·rw [if_neg bL] at H
            have ft := dF bL
            clear bL
            by_cases dG : am.length < 17592186044416; rotate_left
            ·rw [if_neg dG] at H
             exact absurd H (by simp)
            rw [if_pos dG] at H
            have fu := mA dG
            clear dG
            obtain ⟨gI, cm⟩ : ∃ y_ : List Int, y_ = (am ++ [rd D ac]) := ⟨_, rfl⟩
            rw [← cm] at H
            have fv := mA cm
            clear cm
            have H' := mA H
            clear H
            have a3 : 0 ≤ (ac : Int) := ofD
            have a4 : ac < (D.length : Int) := ofD
            obtain ⟨aT, cH, bM⟩ := zH (zF u.out).2.2 ac a3 a4
            cases cH
            replace a3 := eq_true a3
            replace a4 := eq_true a4
            have cI : 0 ≤ (ac : Int) := ofD
            have cJ : ac < (D.length : Int) := ofD
            obtain ⟨fw, gJ, hv⟩ := zH (zF u.out).2.2 ac cI cJ
            obtain rfl : aT = fw := (by injection gJ)
            replace cI := eq_true cI
            replace cJ := eq_true cJ
            go_wp2_with (first | ((with_reducible refine Zb2 (b := .append) (xs := #[.tmp 105, .tmp 110]) rfl ?_); at_builtin; refine xU (Kd.int .i64) (w0 := w) w.heap.size rfl (.tmp 105) (.tmp 110) 22 2 (.int .i64 0) 8 rfl Tryd.underlying22 info2 rfl (by decide) (by omega) u10 am (rd D ac) [.int .i64 (rd D ac)] (fun k_ => some k_ ≠ (.slice (some z) r.length J : Value).ownBlock ∧ some k_ ≠ (.slice (some ad) y.length ao : Value).ownBlock ∧ some k_ ≠ (.slice (some aT) D.length G : Value).ownBlock) (fun _ => False) rfl rfl ?aP (fun _ hk => hk.elim) ?aF ?aO ?aB ?aS ?aL ?_; (case aP => exact rfl); (case aB => exact (bW)); (case aF => exact (fun k_ hk => ⟨zR (zG (rP B.out)) k_ hk, zR (zG (rP x.out)) k_ hk, zR (zG (rP u.out)) k_ hk⟩)); (case aO => exact (rP L.out)); (case aS => exact (Zah (bW))); (case aL => have := fu.out; omega); intro iS i4 ho hb hg hat; rw [← fv.out] at ho; replace B := mA (zS (ok := (fun k_ => some k_ ≠ (.slice (some ad) y.length ao : Value).ownBlock ∧ some k_ ≠ (.slice (some aT) D.length G : Value).ownBlock)) (by (with_reducible repeat (first | apply zC | apply zD | apply zB)); exact zA B.out (fun _ hk => ⟨⟨hk.1, hk.2.1⟩, hk.2.2⟩)) hg hat); replace x := mA (zS (ok := (fun k_ => some k_ ≠ (.slice (some z) r.length J : Value).ownBlock ∧ some k_ ≠ (.slice (some aT) D.length G : Value).ownBlock)) (by (with_reducible repeat (first | apply zC | apply zD | apply zB)); exact zA x.out (fun _ hk => ⟨⟨hk.1, hk.2.1⟩, hk.2.2⟩)) hg hat); replace u := mA (zS (ok := (fun k_ => some k_ ≠ (.slice (some z) r.length J : Value).ownBlock ∧ some k_ ≠ (.slice (some ad) y.length ao : Value).ownBlock)) (by (with_reducible repeat (first | apply zC | apply zD | apply zB)); exact zA u.out (fun _ hk => ⟨⟨hk.1, hk.2.1⟩, hk.2.2⟩)) hg hat); replace l := mA (xW (ok := (fun k_ => some k_ ≠ (.slice (some z) r.length J : Value).ownBlock ∧ some k_ ≠ (.slice (some ad) y.length ao : Value).ownBlock ∧ some k_ ≠ (.slice (some aT) D.length G : Value).ownBlock)) (by (with_reducible repeat (first | apply yD | apply yE | apply zW)); exact yB l.out (fun _ hk => ⟨⟨hk.1, ⟨hk.2.1, hk.2.2.1⟩⟩, hk.2.2.2⟩)) hg hat); replace c := mA (Zar (g := O) (o := .cells #[.int .i64 s, .slice (some ar) A.length ag, .slice ak P.length ah] 69 (0, 0)) (bP c.out) hg (zL L.out c.out (by decide))); replace m := mA (Zar (g := W) (o := .cells #[.int .i64 0, .int .i64 0, .int .i64 0, .slice none 0 0] 34 (0, 0)) (bP m.out) hg (zL L.out m.out (by decide))); replace d := mA (Zar (g := E) (o := .cells #[.int .i64 s, .int .i64 0, .int .i64 0, T] 34 (0, 0)) (bP d.out) hg (zL L.out d.out (by decide))); replace HB := mA (hb); have fx := mA (ho); clear L ho hb hg hat))
            (try simp only [← q])
            go_roundg cG
            case measure => have := au.out; have := aq.out; have := aH.out; have := aE.out; have := bk.out; omega
            case rel => exact ⟨(y), (D), (gI), (wrap64 (Y + 1)), (eW), H', ⟨by have := au.out; have := aq.out; have := aH.out; have := aE.out; have := bk.out; omega⟩, ⟨by (try simp only [a]); (try simp only [j]); (try simp only [q]); (with_reducible repeat (first | apply zC | apply zD | apply zB)); exact zA B.out (fun _ hk => ⟨hk.1.1, ⟨hk.1.2, hk.2⟩⟩)⟩, ⟨by (try simp only [a]); (try simp only [j]); (try simp only [q]); (with_reducible repeat (first | apply zC | apply zD | apply zB)); exact zA x.out (fun _ hk => ⟨hk.1.1, ⟨hk.1.2, hk.2⟩⟩)⟩, ⟨by (try simp only [a]); (try simp only [j]); (try simp only [q]); (with_reducible repeat (first | apply zC | apply zD | apply zB)); exact zA u.out (fun _ hk => ⟨hk.1.1, ⟨hk.1.2, hk.2⟩⟩)⟩, ⟨by (try simp only [a]); (try simp only [j]); (try simp only [q]); exact rP fx.out⟩, ⟨by (try simp only [a]); (try simp only [j]); (try simp only [q]); (with_reducible repeat (first | apply yD | apply yE | apply zW)); exact yB l.out (fun _ hk => ⟨hk.1.1, ⟨hk.1.2.1, ⟨hk.1.2.2, hk.2⟩⟩⟩)⟩, ⟨by (try simp only [a]); (try simp only [j]); (try simp only [q]); exact bP c.out⟩, ⟨by (try simp only [a]); (try simp only [j]); (try simp only [q]); exact bP m.out⟩, ⟨by (try simp only [a]); (try simp only [j]); (try simp only [q]); exact bP d.out⟩, ⟨bW⟩⟩
           rw [if_pos bL] at H
           have ft := dT bL
           clear bL
           obtain ⟨bl, cn⟩ : ∃ y_ : List Int, y_ = (D.set (ac : Int).toNat (y.length : Int)) := ⟨_, rfl⟩
           replace H := bsm cn H
           have dH := mA cn
           clear cn
           by_cases dI : 0 ≤ I; rotate_left
           ·rw [if_neg dI] at H
            exact absurd H (by simp)
           rw [if_pos dI] at H
           have it := dT dI
           clear dI
           by_cases dJ : I < (y.length : Int); rotate_left
           ·rw [if_neg dJ] at H
            exact absurd H (by simp)
           rw [if_pos dJ] at H
           have fy := dT dJ
           (try (have fz := fy; simp only [a, j, q] at fz))
           clear dJ
           by_cases dK : 0 ≤ (rd y I); rotate_left
           ·rw [if_neg dK] at H
            exact absurd H (by simp)
           rw [if_pos dK] at H
           have iu := dT dK
           clear dK
           by_cases dL : (rd y I) < (A.length : Int); rotate_left
           ·rw [if_neg dL] at H
            exact absurd H (by simp)
           rw [if_pos dL] at H
           have fA := dT dL
           (try (have fB := fA; simp only [a, j, q] at fB))
           clear dL
           by_cases dM : 0 ≤ Y; rotate_left
           ·rw [if_neg dM] at H
            exact absurd H (by simp)
           rw [if_pos dM] at H
           have iv := dT dM
           clear dM
           by_cases dN : Y < ((Zag A (rd y I)).length : Int); rotate_left
           ·rw [if_neg dN] at H
            exact absurd H (by simp)
           rw [if_pos dN] at H
           have fC := dT dN
           (try (have fD := fC; simp only [a, j, q] at fD))
           clear dN
           by_cases dO : y.length < 17592186044416; rotate_left
           ·rw [if_neg dO] at H
            exact absurd H (by simp)
           rw [if_pos dO] at H
           have fE := mA dO
           clear dO
           obtain ⟨gK, co⟩ : ∃ y_ : List Int, y_ = (y ++ [rd (Zag A (rd y I)) Y]) := ⟨_, rfl⟩
           rw [← co] at H
           have fF := mA co
           clear co
           by_cases dP : am.length < 17592186044416; rotate_left
           ·rw [if_neg dP] at H
            exact absurd H (by simp)
           rw [if_pos dP] at H
           have fG := mA dP
           clear dP
           obtain ⟨gL, cp⟩ : ∃ y_ : List Int, y_ = (am ++ [rd bl ac]) := ⟨_, rfl⟩
           rw [← cp] at H
           have fH := mA cp
           clear cp
           have H' := mA H
           clear H
           have a3 : 0 ≤ (ac : Int) := ofD
           have a4 : ac < (D.length : Int) := ofD
           obtain ⟨aT, cH, bM⟩ := zH (zF u.out).2.2 ac a3 a4
           cases cH
           replace a3 := eq_true a3
           replace a4 := eq_true a4
           have eP : 0 ≤ (ac : Int) := ofD
           have eQ : (ac : Int) < ((D.length : Int) : Int) := ofD
           obtain ⟨an, iT, eR, eS, gM, iU, eT⟩ := yI u.out (by omega)
           (first | cases eR | (injection eR with ea_ en_ ec_; (first | subst ea_ | (injection ea_ with ea_; subst ea_)); subst ec_; clear en_))
           have gN := mA eS
           have iV := mA eT
           clear eS gM eT
           (first | simp only [Zcl] at bM | skip)
           obtain ⟨hO, hP⟩ := yC 0 u.out (ac : Int) eP eQ
           replace eP := eq_true eP
           replace eQ := eq_true eQ
           have cK := yG u.out (ac : Int) (y.length : Int)
           try go_wp2_with (first | ((with_reducible refine Zbp (t := 2) (p := 90) rfl ?_); refine Zdk (t := 2) (p := 90) (w1 := (wc.setCell ⟨an, (ac : Int).toNat, none⟩ (.int .i64 (y.length : Int)))) ?_; intro dQ hw; have hg : wc.grownBy dQ (some an) := (by rw [hw]; exact cK.2); have hp_ : Kd.R (Kd.int .i64) 2 dQ w.heap.size (fun k_ => some k_ ≠ (.slice (some z) r.length J : Value).ownBlock ∧ some k_ ≠ (.slice (some ad) y.length ao : Value).ownBlock ∧ some k_ ≠ (u10 : Value).ownBlock) (.slice (some ⟨an, 0, none⟩) D.length G) bl := (by rw [hw, dH.out]; exact cK.1); clear cK; replace B := mA (zS (v := (.slice (some ⟨an, 0, none⟩) D.length G)) (v1 := (.slice (some ⟨an, 0, none⟩) D.length G)) (ok := (fun k_ => some k_ ≠ (.slice (some ad) y.length ao : Value).ownBlock ∧ some k_ ≠ (u10 : Value).ownBlock)) (by (with_reducible repeat (first | apply zC | apply zD | apply zB)); exact zA B.out (fun _ hk => ⟨⟨hk.1, hk.2.2⟩, hk.2.1⟩)) hg (.inl rfl)); replace x := mA (zS (v := (.slice (some ⟨an, 0, none⟩) D.length G)) (v1 := (.slice (some ⟨an, 0, none⟩) D.length G)) (ok := (fun k_ => some k_ ≠ (.slice (some z) r.length J : Value).ownBlock ∧ some k_ ≠ (u10 : Value).ownBlock)) (by (with_reducible repeat (first | apply zC | apply zD | apply zB)); exact zA x.out (fun _ hk => ⟨⟨hk.1, hk.2.2⟩, hk.2.1⟩)) hg (.inl rfl)); replace L := mA (zS (v := (.slice (some ⟨an, 0, none⟩) D.length G)) (v1 := (.slice (some ⟨an, 0, none⟩) D.length G)) (ok := (fun k_ => some k_ ≠ (.slice (some z) r.length J : Value).ownBlock ∧ some k_ ≠ (.slice (some ad) y.length ao : Value).ownBlock)) (by (with_reducible repeat (first | apply zC | apply zD | apply zB)); exact zA L.out (fun _ hk => ⟨⟨hk.1, hk.2.1⟩, hk.2.2⟩)) hg (.inl rfl)); replace l := mA (xW (v := (.slice (some ⟨an, 0, none⟩) D.length G)) (v1 := (.slice (some ⟨an, 0, none⟩) D.length G)) (ok := (fun k_ => some k_ ≠ (.slice (some z) r.length J : Value).ownBlock ∧ some k_ ≠ (.slice (some ad) y.length ao : Value).ownBlock ∧ some k_ ≠ (u10 : Value).ownBlock)) (by (with_reducible repeat (first | apply yD | apply yE | apply zW)); exact yB l.out (fun _ hk => ⟨⟨hk.1, ⟨hk.2.1, hk.2.2.2⟩⟩, hk.2.2.1⟩)) hg (.inl rfl)); replace c := mA (Zar (g := O) (o := .cells #[.int .i64 s, .slice (some ar) A.length ag, .slice ak P.length ah] 69 (0, 0)) (bP c.out) hg (zL u.out c.out (by decide))); replace m := mA (Zar (g := W) (o := .cells #[.int .i64 0, .int .i64 0, .int .i64 0, .slice none 0 0] 34 (0, 0)) (bP m.out) hg (zL u.out m.out (by decide))); replace d := mA (Zar (g := E) (o := .cells #[.int .i64 s, .int .i64 0, .int .i64 0, T] 34 (0, 0)) (bP d.out) hg (zL u.out d.out (by decide))); replace u := mA (hp_); replace HB := mA ((by rw [hw]; exact Zbr (HB.out) gN.out : Below w.heap.size w dQ)); clear hg hw hp_))
           replace B := mA (zB B.out)
           replace x := mA (zB x.out)
           replace u := mA (zB u.out)
           replace L := mA (zB L.out)
           replace l := mA (zW l.out)
           replace c := mA (Zad c.out)
           replace m := mA (Zad m.out)
           replace d := mA (Zad d.out)
           replace HB := mA (Zax HB.out)
           have cL : 0 ≤ (I : Int) := ofD
           have cM : I < (y.length : Int) := ofD
           obtain ⟨fI, gO, bN⟩ := zH (zF x.out).2.2 I cL cM
           obtain rfl : ad = fI := (by injection gO)
           replace cL := eq_true cL
           replace cM := eq_true cM
           have cN : 0 ≤ ((rd y I) : Int) := ofD
           have cO : (rd y I) < (A.length : Int) := ofD
           obtain ⟨fJ, eU, cu, gP, aN, bO, bQ⟩ := Zcu bT.out (rd y I) cN cO
           have bR := aN
           obtain rfl : ar = fJ := (by injection gP)
           (try (have hQ : eU = eO ∧ cu = ct := (by have e_ := bR.symm.trans bj; simpa using e_)))
           replace aN := (HB.out.cell (wB w aN)).trans aN
           have bS := mA bQ
           have hx := mA bO
           clear bQ bO
           replace cN := eq_true cN
           replace cO := eq_true cO
           have cQ : 0 ≤ (Y : Int) := ofD
           have cR : Y < ((Zag A (rd y I)).length : Int) := ofD
           obtain ⟨dR, gQ, aQ⟩ := zH bS.out Y cQ cR
           have ej := aQ
           cases gQ
           replace aQ := (HB.out.cell (wB w aQ)).trans aQ
           replace cQ := eq_true cQ
           replace cR := eq_true cR
           refine Zcd (n := 15) (S := fun w' => w'.cell? ⟨O, 0, none⟩ = some (.int .i64 s) ∧ w'.cell? ⟨O, 1, none⟩ = some (.slice (some ar) A.length ag) ∧ w'.cell? ⟨O, 2, none⟩ = some (.slice ak P.length ah) ∧ w'.cell? (ad.add (I).toNat) = some (.int .i64 (rd y I)) ∧ w'.cell? (ar.add ((rd y I)).toNat) = some (.slice (some dR) (Zag A (rd y I)).length cu) ∧ w'.cell? (dR.add (Y).toNat) = some (.int .i64 (rd (Zag A (rd y I)) Y))) (ds := [12, 13]) #[false, false, false, false, false, false, false, false, false, false, false, false, false, false, false] (by kernel_rfl) rfl rfl ⟨bc c 0, bc c 1, bc c 2, bN, (cB HB bR :), (cB HB ej :)⟩ (fun hHeld => ?_); refine Zb8 Zaf.tab23 Zaf.bits23 (fun HT_ HW_ => ?_)
           generalize dQ.drew = w74 at B x u L l c m d HB bS bN aN aQ hHeld ⊢
           refine Zaq (i := 0) (N := some 91) (Zam HT_.out (by kernel_rfl)) ?_
           refine Zaq (i := 1) (N := some 92) (Zam HT_.out (by kernel_rfl)) ?_
           refine Zaq (i := 3) (N := some 94) (Zam HT_.out (by kernel_rfl)) ?_
           refine Zaq (i := 4) (N := some 95) (Zam HT_.out (by kernel_rfl)) ?_
           refine Zaq (i := 5) (N := some 96) (Zam HT_.out (by kernel_rfl)) ?_
           refine Zaq (i := 9) (N := some 100) (Zam HT_.out (by kernel_rfl)) ?_
           refine Za7 (i := 2) (N := some 93) (Za1 HT_.out HW_.out (by kernel_rfl)) hHeld ?_
           refine Za7 (i := 6) (N := some 97) (Za1 HT_.out HW_.out (by kernel_rfl)) hHeld ?_
           refine Zaq (i := 7) (N := some 98) (Zam HT_.out (by kernel_rfl)) ?_
           refine Za7 (i := 8) (N := some 99) (Za1 HT_.out HW_.out (by kernel_rfl)) hHeld ?_
           refine Zaq (i := 10) (N := some 101) (Zam HT_.out (by kernel_rfl)) ?_
           refine Za7 (i := 11) (N := some 102) (Za1 HT_.out HW_.out (by kernel_rfl)) hHeld ?_
           refine last_ (i := 12) (N := some 103) #[true, true, true, true, true, true, true, true, true, true, true, true, true, false, false] rfl rfl (Zbk HT_.out (by kernel_rfl)) (by decide) (fun K hK => ?_)
           refine Zcn (w1 := ?_) (v := ?_) (by rfl) rfl ?_ ?_
           rotate_left 2
           ·go_simp
            constructor
            ·rfl
            ·rfl
           refine hK.out _ _ ?_
           clear hK K
           refine putS 103 ?_
           refine last_ (i := 13) (N := some 104) #[true, true, true, true, true, true, true, true, true, true, true, true, true, true, false] rfl rfl (Zbk HT_.out (by kernel_rfl)) (by decide) (fun K hK => ?_)
           refine xY (Kd.int .i64) (w0 := w) w.heap.size (by rfl) (.tmp 91) (.tmp 103) 22 2 (.int .i64 0) 8 rfl Tryd.underlying22 info2 rfl (by decide) (by omega) (.slice (some ad) y.length ao) y (rd (Zag A (rd y I)) Y) [.int .i64 (rd (Zag A (rd y I)) Y)] (fun k_ => some k_ ≠ (.slice (some z) r.length J : Value).ownBlock ∧ some k_ ≠ (.slice (some ⟨an, 0, none⟩) D.length G : Value).ownBlock ∧ some k_ ≠ (u10 : Value).ownBlock) (fun _ => False) rfl rfl ?aP (fun _ hk => hk.elim) ?aF ?aO ?aB ?aS ?aL ?_
           (case aP => exact rfl)
           (case aB => exact (bW))
           (case aF => exact (fun k_ hk => ⟨zR (zG (rP B.out)) k_ hk, zR (zG (rP u.out)) k_ hk, zR (zG (rP L.out)) k_ hk⟩))
           (case aO => exact (by (with_reducible repeat (first | apply zC | apply zD | apply zB)); exact zA x.out (fun _ hk => ⟨hk.1.1, ⟨hk.2, hk.1.2⟩⟩)))
           (case aS => exact (Zah (bW)))
           (case aL => have := fE.out; omega)
           intro cq i5 ho hb hg hat
           rw [← fF.out] at ho
           replace B := mA (zS (ok := (fun k_ => some k_ ≠ (.slice (some ⟨an, 0, none⟩) D.length G : Value).ownBlock ∧ some k_ ≠ (u10 : Value).ownBlock)) (by (with_reducible repeat (first | apply zC | apply zD | apply zB)); exact zA B.out (fun _ hk => ⟨⟨hk.2, hk.1.2⟩, hk.1.1⟩)) hg hat)
           replace u := mA (zS (ok := (fun k_ => some k_ ≠ (.slice (some z) r.length J : Value).ownBlock ∧ some k_ ≠ (u10 : Value).ownBlock)) (by (with_reducible repeat (first | apply zC | apply zD | apply zB)); exact zA u.out (fun _ hk => ⟨⟨hk.1, hk.2.2⟩, hk.2.1⟩)) hg hat)
           replace L := mA (zS (ok := (fun k_ => some k_ ≠ (.slice (some z) r.length J : Value).ownBlock ∧ some k_ ≠ (.slice (some ⟨an, 0, none⟩) D.length G : Value).ownBlock)) (by (with_reducible repeat (first | apply zC | apply zD | apply zB)); exact zA L.out (fun _ hk => ⟨⟨hk.1.1, hk.2⟩, hk.1.2⟩)) hg hat)
           replace l := mA (xW (ok := (fun k_ => some k_ ≠ (.slice (some z) r.length J : Value).ownBlock ∧ some k_ ≠ (.slice (some ⟨an, 0, none⟩) D.length G : Value).ownBlock ∧ some k_ ≠ (u10 : Value).ownBlock)) (by (with_reducible repeat (first | apply yD | apply yE | apply zW)); exact yB l.out (fun _ hk => ⟨⟨hk.1.1, ⟨hk.2, hk.1.2.2⟩⟩, hk.1.2.1⟩)) hg hat)
           replace c := mA (Zar (g := O) (o := .cells #[.int .i64 s, .slice (some ar) A.length ag, .slice ak P.length ah] 69 (0, 0)) (bP c.out) hg (zL x.out c.out (by decide)))
           replace m := mA (Zar (g := W) (o := .cells #[.int .i64 0, .int .i64 0, .int .i64 0, .slice none 0 0] 34 (0, 0)) (bP m.out) hg (zL x.out m.out (by decide)))
           replace d := mA (Zar (g := E) (o := .cells #[.int .i64 s, .int .i64 0, .int .i64 0, T] 34 (0, 0)) (bP d.out) hg (zL x.out d.out (by decide)))
           replace HB := mA (hb)
           have bq := mA (ho)
           clear x ho hb hg hat
           refine hK.out _ _ ?_
           clear hK K
           refine putS 104 ?_
           refine Zaq (i := 14) (N := some 6) (Zam HT_.out (by kernel_rfl)) ?_
           refine Zcx (Zcv HT_.out (by kernel_rfl)) ?_
           have cS : 0 ≤ (ac : Int) := ofD
           have cT : ac < (bl.length : Int) := (by have h_ : (ac : Int) < ((D.length : Int) : Int) := ofD; first | (have e_ := (zF u.out).1; omega) | simpa only [dH.out, List.length_set] using h_)
           have iw : ((ac : Int) < ((D.length : Int) : Int)) = True := eq_true (ofD)
           obtain ⟨fK, gR, bm⟩ := zH (zF u.out).2.2 ac cS cT
           obtain rfl : (⟨an, 0, none⟩ : Addr) = fK := (by injection gR)
           (first | simp only [Zcl] at bm | simp only [add_at] at bm | simp only [Addr.add, Nat.zero_add] at bm | skip)
           replace cS := eq_true cS
           replace cT := eq_true cT
           try go_wp2_with (first | ((with_reducible refine Zb2 (b := .append) (xs := #[.tmp 105, .tmp 110]) rfl ?_); at_builtin; refine xU (Kd.int .i64) (w0 := w) w.heap.size rfl (.tmp 105) (.tmp 110) 22 2 (.int .i64 0) 8 rfl Tryd.underlying22 info2 rfl (by decide) (by omega) u10 am (rd bl ac) [.int .i64 (rd bl ac)] (fun k_ => some k_ ≠ (.slice (some z) r.length J : Value).ownBlock ∧ some k_ ≠ (.slice (some ⟨an, 0, none⟩) D.length G : Value).ownBlock ∧ some k_ ≠ (cq : Value).ownBlock) (fun _ => False) rfl rfl ?aP (fun _ hk => hk.elim) ?aF ?aO ?aB ?aS ?aL ?_; (case aP => exact rfl); (case aB => exact (bW)); (case aF => exact (fun k_ hk => ⟨zR (zG (rP B.out)) k_ hk, zR (zG (rP u.out)) k_ hk, zR (zG (rP bq.out)) k_ hk⟩)); (case aO => exact (by (with_reducible repeat (first | apply zC | apply zD | apply zB)); exact zA L.out (fun _ hk => ⟨hk.1.1, ⟨hk.1.2, hk.2⟩⟩))); (case aS => exact (Zah (bW))); (case aL => have := fG.out; omega); intro iW i6 ho hb hg hat; rw [← fH.out] at ho; replace B := mA (zS (ok := (fun k_ => some k_ ≠ (.slice (some ⟨an, 0, none⟩) D.length G : Value).ownBlock ∧ some k_ ≠ (cq : Value).ownBlock)) (by (with_reducible repeat (first | apply zC | apply zD | apply zB)); exact zA B.out (fun _ hk => ⟨⟨hk.1.1, hk.2⟩, hk.1.2⟩)) hg hat); replace u := mA (zS (ok := (fun k_ => some k_ ≠ (.slice (some z) r.length J : Value).ownBlock ∧ some k_ ≠ (cq : Value).ownBlock)) (by (with_reducible repeat (first | apply zC | apply zD | apply zB)); exact zA u.out (fun _ hk => ⟨⟨hk.1.1, hk.2⟩, hk.1.2⟩)) hg hat); replace l := mA (xW (ok := (fun k_ => some k_ ≠ (.slice (some z) r.length J : Value).ownBlock ∧ some k_ ≠ (.slice (some ⟨an, 0, none⟩) D.length G : Value).ownBlock ∧ some k_ ≠ (cq : Value).ownBlock)) (by (with_reducible repeat (first | apply yD | apply yE | apply zW)); exact yB l.out (fun _ hk => ⟨⟨hk.1.1, ⟨hk.1.2.1, hk.2⟩⟩, hk.1.2.2⟩)) hg hat); replace c := mA (Zar (g := O) (o := .cells #[.int .i64 s, .slice (some ar) A.length ag, .slice ak P.length ah] 69 (0, 0)) (bP c.out) hg (zL L.out c.out (by decide))); replace m := mA (Zar (g := W) (o := .cells #[.int .i64 0, .int .i64 0, .int .i64 0, .slice none 0 0] 34 (0, 0)) (bP m.out) hg (zL L.out m.out (by decide))); replace d := mA (Zar (g := E) (o := .cells #[.int .i64 s, .int .i64 0, .int .i64 0, T] 34 (0, 0)) (bP d.out) hg (zL L.out d.out (by decide))); replace bq := mA (zS (ok := (fun k_ => some k_ ≠ (.slice (some z) r.length J : Value).ownBlock ∧ some k_ ≠ (.slice (some ⟨an, 0, none⟩) D.length G : Value).ownBlock)) (by (with_reducible repeat (first | apply zC | apply zD | apply zB)); exact zA bq.out (fun _ hk => ⟨⟨hk.1, hk.2.1⟩, hk.2.2⟩)) hg hat); replace HB := mA (hb); have fL := mA (ho); clear L ho hb hg hat))
           (try simp only [← q])
           go_roundg cG
           case measure => have := au.out; have := aq.out; have := aH.out; have := aE.out; have := bk.out; omega
           case rel => exact ⟨(gK), (bl), (gL), (wrap64 (Y + 1)), (eW), H', ⟨by have := au.out; have := aq.out; have := aH.out; have := aE.out; have := bk.out; omega⟩, ⟨by (try simp only [a]); (try simp only [j]); (try simp only [q]); (with_reducible repeat (first | apply zC | apply zD | apply zB)); exact zA B.out (fun _ hk => ⟨hk.1.2, ⟨hk.1.1, hk.2⟩⟩)⟩, ⟨by (try simp only [a]); (try simp only [j]); (try simp only [q]); (with_reducible repeat (first | apply zC | apply zD | apply zB)); exact zA bq.out (fun _ hk => ⟨hk.1.1, ⟨hk.1.2, hk.2⟩⟩)⟩, ⟨by (try simp only [a]); (try simp only [j]); (try simp only [q]); (with_reducible repeat (first | apply zC | apply zD | apply zB)); exact zA u.out (fun _ hk => ⟨hk.1.1, ⟨hk.1.2, hk.2⟩⟩)⟩, ⟨by (try simp only [a]); (try simp only [j]); (try simp only [q]); (with_reducible repeat (first | apply zC | apply zD | apply zB)); exact zA fL.out (fun _ hk => ⟨hk.1, ⟨hk.2.2, hk.2.1⟩⟩)⟩, ⟨by (try simp only [a]); (try simp only [j]); (try simp only [q]); (with_reducible repeat (first | apply yD | apply yE | apply zW)); exact yB l.out (fun _ hk => ⟨hk.1.1, ⟨hk.1.2.2, ⟨hk.1.2.1, hk.2⟩⟩⟩)⟩, ⟨by (try simp only [a]); (try simp only [j]); (try simp only [q]); exact bP c.out⟩, ⟨by (try simp only [a]); (try simp only [j]); (try simp only [q]); exact bP m.out⟩, ⟨by (try simp only [a]); (try simp only [j]); (try simp only [q]); exact bP d.out⟩, ⟨bW⟩⟩
end Go.Proofs.YtgindgodfcfgkaaDoor.P
end M0
