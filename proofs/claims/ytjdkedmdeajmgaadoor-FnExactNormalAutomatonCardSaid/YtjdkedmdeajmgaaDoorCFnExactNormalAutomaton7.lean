import Derived.Test.YtjdkedmdeajmgaaDoorCFnExactNormalAutomaton6
section M0
namespace Go.Proofs.YtjdkedmdeajmgaaDoor.P
open Go.RowKit Go.Proofs.YtjdkedmdeajmgaaDoor.Sh Go.Proofs.YtjdkedmdeajmgaaDoorW.PrintWords Go.Proofs.YtjdkedmdeajmgaaDoorW.PrintLast Go.Proofs.YtjdkedmdeajmgaaDoorW.PrintMore
open Kd
attribute [local go_sem] Zcf Zch Zcv Zcu Zb6 Zb7 Zcg Zce   -- for this text's walks alone
set_option linter.unusedVariables false
set_option linter.unusedSimpArgs false
mutual
def Zag.l0 : Nat → List Int → List Int → List Int → Int → Int → List (List Int) → List Bool → Int → Int → Int → Option (Int × Int × Int × (List (List Int)) × Int)
 | 0, _, _, _, _, _, _, _, _, _, _ => none
 | k + 1, x4, x6, x7, x8, a, b, c, d, e, g => if x8 < (x7.length : Int) then (if 0 ≤ x8 then (Zag.l0 k x4 x6 (x7.set (x8 : Int).toNat (-1)) (wrap64 (x8 + 1)) a b c d e g) else (none)) else (if 0 < (x4.length : Int) then (if (rd x4 0) ≥ 0 then (if 0 ≤ (rd x4 0) then (if (rd x4 0) < (x7.length : Int) then (Zag.j1 k x4 x6 (x7.set ((rd x4 0) : Int).toNat 0) a b c d e g) else (none)) else (none)) else (Zag.j1 k x4 x6 x7 a b c d e g)) else (none))
def Zag.j1 : Nat → List Int → List Int → List Int → Int → List (List Int) → List Bool → Int → Int → Int → Option (Int × Int × Int × (List (List Int)) × Int)
 | 0, _, _, _, _, _, _, _, _, _ => none
 | k + 1, x4, x6, x7, a, b, c, d, e, g => Zag.l1 k x4 x6 x7 0 a b c d e g ([] : List (List Int))
def Zag.l1 : Nat → List Int → List Int → List Int → Int → Int → List (List Int) → List Bool → Int → Int → Int → List (List Int) → Option (Int × Int × Int × (List (List Int)) × Int)
 | 0, _, _, _, _, _, _, _, _, _, _, _ => none
 | k + 1, x4, x6, x7, x9, a, b, c, d, e, g, h => if x9 < (x6.length : Int) then (Zag.l2 k x4 x6 x7 x9 (([] : List Int)) 0 a b c d e g h) else (if (x6.length : Int) > 16 then (some (0, 0, 0, ([] : List (List Int)), (x6.length : Int))) else (Zag.l3 k x6 (x6.length : Int) 0 a b c d e g h))
def Zag.l2 : Nat → List Int → List Int → List Int → Int → List Int → Int → Int → List (List Int) → List Bool → Int → Int → Int → List (List Int) → Option (Int × Int × Int × (List (List Int)) × Int)
 | 0, _, _, _, _, _, _, _, _, _, _, _, _, _ => none
 | k + 1, x4, x6, x7, x9, l, i, b, a, d, e, g, h, c => if i < b then (if 0 ≤ x9 then (if x9 < (x6.length : Int) then (if 0 ≤ (rd x6 x9) then (if (rd x6 x9) < (a.length : Int) then (if 0 ≤ i then (if i < ((Zam a (rd x6 x9)).length : Int) then ((Zba.f x4 (rd (Zam a (rd x6 x9)) i)).bind fun j => (if 0 < (x4.length : Int) then (if (rd x4 0) < 0 then (Zag.j4 k x4 x6 x7 x9 l i j true b a d e g h c) else (Zag.j4 k x4 x6 x7 x9 l i j (decide (j < 0)) b a d e g h c)) else (none))) else (none)) else (none)) else (none)) else (none)) else (none)) else (none)) else (if c.length < 5864062014805 then (Zag.l1 k x4 x6 x7 (wrap64 (x9 + 1)) b a d e g h (c ++ [l])) else (none))
def Zag.j4 : Nat → List Int → List Int → List Int → Int → List Int → Int → Int → Bool → Int → List (List Int) → List Bool → Int → Int → Int → List (List Int) → Option (Int × Int × Int × (List (List Int)) × Int)
 | 0, _, _, _, _, _, _, _, _, _, _, _, _, _, _, _ => none
 | k + 1, x4, x6, x7, x9, i, j, l, n, b, a, c, d, e, g, h => if n = true then (if i.length < 17592186044416 then (Zag.l2 k x4 x6 x7 x9 (i ++ [(-1)]) (wrap64 (j + 1)) b a c d e g h) else (none)) else (if 0 ≤ l then (if l < (x7.length : Int) then (if (rd x7 l) < 0 then ((some (x7.set (l : Int).toNat (x6.length : Int) : List Int)).bind fun m => (if 0 ≤ x9 then (if x9 < (x6.length : Int) then (if 0 ≤ (rd x6 x9) then (if (rd x6 x9) < (a.length : Int) then (if 0 ≤ j then (if j < ((Zam a (rd x6 x9)).length : Int) then (if x6.length < 17592186044416 then (if i.length < 17592186044416 then (Zag.l2 k x4 (x6 ++ [rd (Zam a (rd x6 x9)) j]) m x9 (i ++ [rd m l]) (wrap64 (j + 1)) b a c d e g h) else (none)) else (none)) else (none)) else (none)) else (none)) else (none)) else (none)) else (none))) else (if i.length < 17592186044416 then (Zag.l2 k x4 x6 x7 x9 (i ++ [rd x7 l]) (wrap64 (j + 1)) b a c d e g h) else (none))) else (none)) else (none))
def Zag.l3 : Nat → List Int → Int → Int → Int → List (List Int) → List Bool → Int → Int → Int → List (List Int) → Option (Int × Int × Int × (List (List Int)) × Int)
 | 0, _, _, _, _, _, _, _, _, _, _ => none
 | k + 1, x6, j, b, h, i, a, c, d, e, g => if b < j then (if 0 ≤ b then (if b < (x6.length : Int) then (if 0 ≤ (rd x6 b) then (if (rd x6 b) < (a.length : Int) then (if rdOf false a (rd x6 b) = true then ((Zcd.f b).bind fun l => (Zag.l3 k x6 j (wrap64 (b + 1)) h i a c d (Go.bits .or .i64 e l) g)) else (Zag.l3 k x6 j (wrap64 (b + 1)) h i a c d e g)) else (none)) else (none)) else (none)) else (none)) else (some (c, d, e, g, j))
end
def Zag.f (k : Nat) (b : Int) (a : List (List Int)) (c : List Bool) : Option (Int × Int × Int × (List (List Int)) × Int) := (Zaq.f k b a c).bind fun d => (if 0 ≤ (wrap64 ((a.length : Int) + 1)) then (if (wrap64 ((a.length : Int) + 1) : Int).toNat ≤ 35184372088832 then (Zag.l0 k d (([0] : List Int)) (List.replicate (wrap64 ((a.length : Int) + 1) : Int).toNat 0) 0 b a c b 0 0) else (none)) else (none))
def Zag.T18 : Bool × List (List Nat × List Nat) := (true, [([], []), ([], []), ([1], [1]), ([], []), ([], []), ([3, 4], [3, 4]), ([5], [5]), ([2, 6], [2, 6]), ([7], [7]), ([], []), ([8, 9], [8, 9]), ([10], [10]), ([0, 11], [0, 11]), ([12, 12, 0, 1, 2, 3, 4, 5, 6, 7, 8, 9, 10, 11, 12], [12])])
def Zag.B18 : List Nat := [0, 0, 2, 0, 0, 24, 56, 126, 254, 0, 1022, 2046, 4095, 8191]
theorem Zag.tab18 : rtab .any (opsOf Tryd.f58 18) = Zag.T18 := by kernel_rfl
theorem Zag.bits18 : Zcb Zag.T18.2 Zag.B18 = true := by kernel_rfl
def Zag.T23 : Bool × List (List Nat × List Nat) := (true, [([], []), ([], []), ([1], [1]), ([], []), ([], []), ([3, 4], [3, 4]), ([5], [5]), ([2, 6], [2, 6]), ([7], [7]), ([], []), ([8, 9], [8, 9]), ([10], [10]), ([11], [11]), ([0, 12], [0, 12]), ([13, 13, 0, 1, 2, 3, 4, 5, 6, 7, 8, 9, 10, 11, 12, 13], [0, 3, 13])])
def Zag.B23 : List Nat := [0, 0, 2, 0, 0, 24, 56, 126, 254, 0, 1022, 2046, 4094, 8191, 16383]
theorem Zag.tab23 : rtab .any (opsOf Tryd.f58 23) = Zag.T23 := by kernel_rfl
theorem Zag.bits23 : Zcb Zag.T23.2 Zag.B23 = true := by kernel_rfl
def Zag.T32 : Bool × List (List Nat × List Nat) := (true, [([], []), ([0], [0]), ([], []), ([], []), ([2, 3], [2, 3]), ([4], [4]), ([1, 5], [1, 5]), ([6], [6])])
def Zag.B32 : List Nat := [0, 1, 0, 0, 12, 28, 63, 127]
theorem Zag.tab32 : rtab .any (opsOf Tryd.f58 32) = Zag.T32 := by kernel_rfl
theorem Zag.bits32 : Zcb Zag.T32.2 Zag.B32 = true := by kernel_rfl
set_option maxHeartbeats 8000000 in
set_option maxRecDepth 100000 in
theorem Zag.calls (k : Nat) (s : Int) (ap : Option Addr) (ag : Nat) (D : List (List Int)) (ak : Option Addr) (ah : Nat) (P : List Bool) (r1 : Int) (r2 : Int) (r3 : Int) (r4 : List (List Int)) (r5 : Int) (w : World) (cK : Kd.C (Kd.slice 2 (Kd.int .i64)) w ap D.length D) (cL : D.length ≤ ag) (cM : Kd.C Kd.bool w ak P.length P) (cN : P.length ≤ ah) (h : Zag.f k s D P = some (r1, r2, r3, r4, r5)) :
  Calls Tryd.prog 58 #[.agg #[.int .i64 s, .slice ap D.length ag, .slice ak P.length ah]] w fun e w' => ∃ ff : Value, e = .returned (.tuple #[.agg #[.int .i64 r1, .int .i64 r2, .int .i64 r3, ff], .int .i64 r5]) ∧ Kd.S (Kd.slice 2 (Kd.int .i64)) 22 w' w.heap.size (fun _ => True) ff r4 ∧ Below w.heap.size w w' := by
 have hV := Tryd.underlying66
 have hW := Tryd.underlying39
 have bS := mA cK
 have eu := mA cL
 clear cK cL
 have bT := mA cM
 have ev := mA cN
 clear cM cN
 have HB := mA (Below.refl w.heap.size w)
 unfold Zag.f at h
 have H := h
 clear h
 obtain ⟨r, A2, H⟩ := bA H
 obtain ⟨ba, bU⟩ := nm ((([0] : List Int)) : List Int)
 rw [← bU.out] at H
 obtain ⟨a5, bb⟩ : ∃ j_ : Int, (wrap64 ((D.length : Int) + 1)) = j_ := ⟨_, rfl⟩
 replace H : (if 0 ≤ (a5) then (if (a5 : Int).toNat ≤ 35184372088832 then (Zag.l0 k r ba (List.replicate (a5 : Int).toNat 0) 0 s D P s 0 0) else (none)) else (none)) = some (r1, r2, r3, r4, r5) := by first | (rw [bb] at H; exact H) | (simp only [bb] at H ⊢; exact H)
 (try rw [bb] at A2)
 have g9 : (IntKind.i64.wrap ((D.length : Int) + 1)) = a5 := (Zcq _).trans bb
 by_cases c4 : 0 ≤ (a5); rotate_left
 ·rw [if_neg c4] at H
  exact absurd H (by simp)
 rw [if_pos c4] at H
 have fj := eq_true c4
 have fk := dT c4
 clear c4
 by_cases c5 : (a5 : Int).toNat ≤ 35184372088832; rotate_left
 ·rw [if_neg c5] at H
  exact absurd H (by simp)
 rw [if_pos c5] at H
 have fl := eq_true c5
 have fm := dT c5
 clear c5
 obtain ⟨fn, bV⟩ := nm ((List.replicate (a5 : Int).toNat 0) : List Int)
 rw [← bV.out] at H
 have H' := mA H
 clear H
 go_enter Tryd.func58, Tryd.ntmps58
 go_wp2_with (first | ((with_reducible refine Zat (N := 1) rfl ?_); refine boxS (N := 1) (cs := #[.int .i64 s, .slice ap D.length ag, .slice ak P.length ah]) (t := 66) ?_; intro L hg w6 hbox hb; have c := mA (hbox); have ha := geW (w := w) hg; have hc := geW (w := w) hg; replace HB := mA (Zaf (bW) hb); clear hb hbox hg) | ((with_reducible refine Zat (N := 2) rfl ?_); refine boxS (N := 2) (cs := #[.int .i64 0, .int .i64 0, .int .i64 0, .slice none 0 0]) (t := 39) ?_; intro U hg w7 hbox hb; have m := mA (hbox); have he := geW (w := w) hg; have hf := geW (w := w) hg; replace HB := mA (Zaf (bW) hb); have aw := mA (neB hg c); have ax := mA (neC hg c); replace c := mA (blkB c.out hb); clear hb hbox hg; have hX := aw.out; have hY := ax.out; obtain ⟨dV, dW, dX⟩ := cells3 c.out; obtain ⟨dY, dZ, d0⟩ := frz3 c.out) | ((with_reducible refine Zax (f := 113) rfl ?_); refine Zbi (some 16) Tryd.func113 #[.agg #[.int .i64 s, .slice ap D.length ag, .slice ak P.length ah]] ?_; (with_reducible refine (Zaq.calls k s _ _ D _ _ P r _ ?side1 ?side2 ?side3 ?side4 A2.out).mono ?_); (case side1 => exact cP (zQ bS.out HB.out)); (case side2 => exact eu.out); (case side3 => exact cP (zQ bT.out HB.out)); (case side4 => exact ev.out); rintro e im ⟨bq, rfl, fg, hb⟩; refine ⟨_, rfl, ?_⟩; have aA := mA (zS fg (Zaj (bW))); replace c := mA (blkB c.out hb); replace m := mA (blkB m.out hb); replace HB := mA (Zaf (bW) hb); (try clear hb); (try clear hb2); (try clear hk); (try clear hi); (try clear fg); obtain ⟨dq, dr, dt⟩ := cells3 c.out; obtain ⟨du, dv, dw⟩ := frz3 c.out) | ((with_reducible refine Zat (N := 5) rfl ?_); refine boxS (N := 5) (cs := #[.int .i64 0, .int .i64 0, .int .i64 0, .slice none 0 0]) (t := 39) ?_; intro B hg io hbox hb; replace aA := mA (zK (rP aA.out) hb); have d := mA (hbox); have hh := geW (w := w) hg; have hj := geW (w := w) hg; replace HB := mA (Zaf (bW) hb); have ae := mA (neB hg c); have ay := mA (neC hg c); replace c := mA (blkB c.out hb); have af := mA (neB hg m); have az := mA (neC hg m); replace m := mA (blkB m.out hb); clear hb hbox hg; have hl := ay.out; have hm := ae.out; have hn := az.out; have hq := af.out; obtain ⟨dx, dy, dz, dA⟩ := Zbl d.out; obtain ⟨dB, dC, dD, dE⟩ := frz4 d.out) | ((with_reducible refine Zat (N := 20) rfl ?_); refine yP (Kd.int .i64) _ 2 ?hg (N := 20) ?hd (xs := ([0] : List Int)) (inner := [.int .i64 0]) (ok := fun _ => True) (okp := fun _ => True) ?hr ?hp (fun _ hk => hk) trivial (Below.refl _ _) (Nat.le_refl _) (by simp) ?_; (case hd => rfl); (case hg => rfl); (case hr => first | (go_simp; done) | (go_simp; rfl)); (case hp => exact (Reps.one (show Kd.M (Kd.int .i64) _ _ _ 0 [.int .i64 0] from rfl) (Reps.none _ _))); intro aJ ip bd hb hg_ hnew_; clear hg_ hnew_; (first | rw [← bU.out] at bd | (simp only [Int.reduceToNat] at bd; rw [← bU.out] at bd)); have bm := mA (zS (yC bd (zI (by (with_reducible repeat (first | apply zC | apply zD | apply zA)); exact (zB (zF (p := ⟨B, 3, none⟩) (zF (p := ⟨B, 2, none⟩) (zF (p := ⟨B, 1, none⟩) (zF (p := ⟨B, 0, none⟩) (zV aA.out d.out (by decide)) (fun _ hk => hk.2) (.int .i64 s)) (fun _ hk => hk.2) (.int .i64 0)) (fun _ hk => hk.2) (.int .i64 0)) (fun _ hk => hk.2) (.slice none 0 0)) (fun _ h_ => h_.1))))) (Zaj (bW))); replace aA := mA (zZ (by (with_reducible repeat (first | apply zC | apply zD | apply zA)); exact (zB (zF (p := ⟨B, 3, none⟩) (zF (p := ⟨B, 2, none⟩) (zF (p := ⟨B, 1, none⟩) (zF (p := ⟨B, 0, none⟩) (zV aA.out d.out (by decide)) (fun _ hk => hk.2) (.int .i64 s)) (fun _ hk => hk.2) (.int .i64 0)) (fun _ hk => hk.2) (.int .i64 0)) (fun _ hk => hk.2) (.slice none 0 0)) (fun _ h_ => h_.1))) (zU bd) hb); replace c := mA (Zbd (g := L) (o := .cells #[.int .i64 s, .slice ap D.length ag, .slice ak P.length ah] 66 (0, 0)) (by (with_reducible repeat (first | refine Zad ?_ _ | refine Zaa ?_ | refine Zab ?_ _)); refine Zao ?_ ae.out _; (with_reducible repeat (first | refine Zad ?_ _ | refine Zaa ?_ | refine Zab ?_ _)); refine Zao ?_ ae.out _; (with_reducible repeat (first | refine Zad ?_ _ | refine Zaa ?_ | refine Zab ?_ _)); refine Zao ?_ ae.out _; (with_reducible repeat (first | refine Zad ?_ _ | refine Zaa ?_ | refine Zab ?_ _)); refine Zao ?_ ae.out _; exact bP c.out) hb); replace m := mA (Zbd (g := U) (o := .cells #[.int .i64 0, .int .i64 0, .int .i64 0, .slice none 0 0] 39 (0, 0)) (by (with_reducible repeat (first | refine Zad ?_ _ | refine Zaa ?_ | refine Zab ?_ _)); refine Zao ?_ af.out _; (with_reducible repeat (first | refine Zad ?_ _ | refine Zaa ?_ | refine Zab ?_ _)); refine Zao ?_ af.out _; (with_reducible repeat (first | refine Zad ?_ _ | refine Zaa ?_ | refine Zab ?_ _)); refine Zao ?_ af.out _; (with_reducible repeat (first | refine Zad ?_ _ | refine Zaa ?_ | refine Zab ?_ _)); refine Zao ?_ af.out _; exact bP m.out) hb); replace d := mA (Zbd (g := B) (o := .cells #[.int .i64 s, .int .i64 0, .int .i64 0, .slice none 0 0] 39 (0, 0)) (by (with_reducible repeat (first | refine Zad ?_ _ | refine Zaa ?_ | refine Zab ?_ _)); refine Zau (cs := #[.int .i64 s, .int .i64 0, .int .i64 0, .slice none 0 0]) ?_ 3 _ rfl; (with_reducible repeat (first | refine Zad ?_ _ | refine Zaa ?_ | refine Zab ?_ _)); refine Zau (cs := #[.int .i64 s, .int .i64 0, .int .i64 0, .slice none 0 0]) ?_ 2 _ rfl; (with_reducible repeat (first | refine Zad ?_ _ | refine Zaa ?_ | refine Zab ?_ _)); refine Zau (cs := #[.int .i64 s, .int .i64 0, .int .i64 0, .slice none 0 0]) ?_ 1 _ rfl; (with_reducible repeat (first | refine Zad ?_ _ | refine Zaa ?_ | refine Zab ?_ _)); refine Zau (cs := #[.int .i64 0, .int .i64 0, .int .i64 0, .slice none 0 0]) ?_ 0 _ rfl; exact bP d.out) hb); replace HB := mA (Zaf (bW) hb); clear hb bd; obtain ⟨dG, dH, dI⟩ := cells3 c.out; obtain ⟨dJ, dK, dL⟩ := frz3 c.out) | ((with_reducible refine Zat (N := 25) rfl ?_); refine xB (Kd.int .i64) _ 2 rfl (N := 25) rfl 22 _ _ rfl a5 rfl rfl Tryd.underlying22 (.int .i64 0) 8 Zci rfl (by decide) (by omega) 0 (ok := fun _ => True) (okp := fun _ => True) rfl (fun _ hk => hk) trivial (ofD) (Nat.le_trans (Nat.mul_le_mul_right _ (ofD : a5.toNat ≤ 35184372088832)) (by omega)) (Below.refl _ _) (Nat.le_refl _) ?_; intro ck iq aU hb hg_ hnew_; clear hg_ hnew_; (first | rw [← bV.out] at aU | (simp only [Int.reduceToNat] at aU; rw [← bV.out] at aU)); have ew := mA (zS (yC (yC aU (zI (rP aA.out))) (zI (rP bm.out))) (Zaj (bW))); replace aA := mA (zZ (rP aA.out) (zU aU) hb); replace bm := mA (zZ (rP bm.out) (zU aU) hb); replace c := mA (blkB c.out hb); replace m := mA (blkB m.out hb); replace d := mA (blkB d.out hb); replace HB := mA (Zaf (bW) hb); clear hb aU))
 go_loopg [8] k (fun kq v8 w' => ∃ (am : List Int) (aE : Int), v8 = .int .i64 aE ∧ Zac (Zag.l0 kq r ba am aE s D P s 0 0 = some (r1, r2, r3, r4, r5)) ∧ Zac (kq ≤ k) ∧ Zac (Kd.R (Kd.int .i64) 2 w' w.heap.size (fun k_ => some k_ ≠ (aJ : Value).ownBlock ∧ some k_ ≠ (ck : Value).ownBlock) bq r) ∧ Zac (Kd.R (Kd.int .i64) 2 w' w.heap.size (fun k_ => some k_ ≠ (bq : Value).ownBlock ∧ some k_ ≠ (ck : Value).ownBlock) aJ ba) ∧ Zac (Kd.R (Kd.int .i64) 2 w' w.heap.size (fun k_ => some k_ ≠ (bq : Value).ownBlock ∧ some k_ ≠ (aJ : Value).ownBlock) ck am) ∧ Zac (w'.heap[L]? = some (.cells #[.int .i64 s, (.slice ap D.length ag), (.slice ak P.length ah)] 66 (0, 0))) ∧ Zac (w'.heap[U]? = some (.cells #[.int .i64 0, .int .i64 0, .int .i64 0, (.slice none 0 0)] 39 (0, 0))) ∧ Zac (w'.heap[B]? = some (.cells #[.int .i64 s, .int .i64 0, .int .i64 0, (.slice none 0 0)] 39 (0, 0))) ∧ Zac (Below w.heap.size w w'))
 case atStart => exact ⟨(fn), (0), (eW), H', ⟨Nat.le_refl _⟩, ⟨by (with_reducible repeat (first | apply zC | apply zD | apply zA)); exact zB aA.out (fun _ hk => ⟨hk.1.2, hk.2⟩)⟩, ⟨by (with_reducible repeat (first | apply zC | apply zD | apply zA)); exact zB bm.out (fun _ hk => ⟨hk.1.2, hk.2⟩)⟩, ⟨by (with_reducible repeat (first | apply zC | apply zD | apply zA)); exact zB ew.out (fun _ hk => ⟨hk.1.2, hk.2⟩)⟩, ⟨bP c.out⟩, ⟨bP m.out⟩, ⟨bP d.out⟩, ⟨bW⟩⟩
 case round =>
  clear H' fj fk fl fm dq dr dt dx dy dz dA dG dH dI dV dW dX du dv dw dB dC dD dE dJ dK dL dY dZ d0
  obtain ⟨am, aE, rfl, HA, au, z, x, u, c, m, d, HB⟩ := hrel
  cases gk with
  | zero => exact absurd HA.out (by simp [Zag.l0])
  | succ k1 =>
   have H := HA.out
   clear HA
   simp only [Zag.l0] at H
   by_cases bw : aE < (am.length : Int)
   ·rw [if_pos bw] at H
    have cO := dT bw
    clear bw
    obtain ⟨hs, H⟩ := gE H
    obtain ⟨d1, cQ⟩ := nm ((am.set (aE : Int).toNat (-1)) : List Int)
    rw [← cQ.out] at H
    have H' := mA H
    clear H
    obtain ⟨hZ, br, fo⟩ := zP u.out
    subst fo
    have d2 : 0 ≤ (aE : Int) := ofD
    have d3 : (aE : Int) < ((am.length : Int) : Int) := ofD
    obtain ⟨aV, h0, d4, d5, fp, h1, d6⟩ := yK u.out (by omega)
    (first | cases d4 | (injection d4 with ea_ en_ ec_; (first | subst ea_ | (injection ea_ with ea_; subst ea_)); subst ec_; clear en_))
    have fq := mA d5
    have h2 := mA d6
    clear d5 fp d6
    obtain ⟨gR, gS⟩ := yF 0 u.out (aE : Int) d2 d3
    replace d2 := eq_true d2
    replace d3 := eq_true d3
    have cm := yI u.out (aE : Int) (-1)
    go_wp2_with (first | ((with_reducible refine Zbq (t := 2) (p := 34) rfl ?_); refine Zdg (t := 2) (p := 34) (w1 := (wr.setCell ⟨aV, (aE : Int).toNat, none⟩ (.int .i64 (-1)))) ?_; intro d7 hw; have hg : wr.grownBy d7 (some aV) := (by rw [hw]; exact cm.2); have hp_ : Kd.R (Kd.int .i64) 2 d7 w.heap.size (fun k_ => some k_ ≠ (bq : Value).ownBlock ∧ some k_ ≠ (aJ : Value).ownBlock) (.slice (some ⟨aV, 0, none⟩) am.length br) d1 := (by rw [hw, cQ.out]; exact cm.1); clear cm; replace z := mA (zR (v := (.slice (some ⟨aV, 0, none⟩) am.length br)) (v1 := (.slice (some ⟨aV, 0, none⟩) am.length br)) (ok := (fun k_ => some k_ ≠ (aJ : Value).ownBlock)) (rP z.out) hg (.inl rfl)); replace x := mA (zR (v := (.slice (some ⟨aV, 0, none⟩) am.length br)) (v1 := (.slice (some ⟨aV, 0, none⟩) am.length br)) (ok := (fun k_ => some k_ ≠ (bq : Value).ownBlock)) (rP x.out) hg (.inl rfl)); replace c := mA (Zah (g := L) (o := .cells #[.int .i64 s, .slice ap D.length ag, .slice ak P.length ah] 66 (0, 0)) (bP c.out) hg (zN u.out c.out (by decide))); replace m := mA (Zah (g := U) (o := .cells #[.int .i64 0, .int .i64 0, .int .i64 0, .slice none 0 0] 39 (0, 0)) (bP m.out) hg (zN u.out m.out (by decide))); replace d := mA (Zah (g := B) (o := .cells #[.int .i64 s, .int .i64 0, .int .i64 0, .slice none 0 0] 39 (0, 0)) (bP d.out) hg (zN u.out d.out (by decide))); replace u := mA (hp_); replace HB := mA ((by rw [hw]; exact Za9 (HB.out) fq.out : Below w.heap.size w d7)); clear hg hw hp_))
    go_roundg k1
    case measure => have := au.out; omega
    case rel => exact ⟨(d1), (wrap64 (aE + 1)), (eW), H', ⟨by have := au.out; omega⟩, ⟨rP z.out⟩, ⟨rP x.out⟩, ⟨rP u.out⟩, ⟨bP c.out⟩, ⟨bP m.out⟩, ⟨bP d.out⟩, ⟨bW⟩⟩
   rw [if_neg bw] at H
   have cO := dF bw
   clear bw
   by_cases cR : 0 < (r.length : Int); rotate_left
   ·rw [if_neg cR] at H
    exact absurd H (by simp)
   rw [if_pos cR] at H
   have ey := dT cR
   have ez : decide (0 < r.length) = true := decide_eq_true (by omega)
   clear cR
   have cn := mA H
   clear H
   obtain ⟨ai, G, fr⟩ := zP u.out
   subst fr
   obtain ⟨h3, I, fs⟩ := zP z.out
   subst fs
   have bX : 0 ≤ (0 : Int) := (by omega)
   have bY : 0 < (r.length : Int) := ofD
   obtain ⟨y, ft, bf⟩ := zO (zJ z.out).2.2 0 bX bY
   cases ft
   have ht : (0 < r.length) = True := eq_true (by omega)
   (try rw [show ((0 : Int)).toNat = 0 from rfl] at bf)
   (try rw [Addr.add_zero'] at bf)
   replace bX := eq_true bX
   replace bY := eq_true bY
   go_upto_if 38 with (fail)
   go_cut [] (fun wc => ∃ (kq : Nat) (aH : List Int), Zac (Zag.j1 kq r ba aH s D P s 0 0 = some (r1, r2, r3, r4, r5)) ∧ Zac (kq ≤ k1) ∧ Zac (Kd.R (Kd.int .i64) 2 wc w.heap.size (fun k_ => some k_ ≠ (aJ : Value).ownBlock ∧ some k_ ≠ ((.slice ai am.length G) : Value).ownBlock) (.slice (some y) r.length I) r) ∧ Zac (Kd.R (Kd.int .i64) 2 wc w.heap.size (fun k_ => some k_ ≠ ((.slice (some y) r.length I) : Value).ownBlock ∧ some k_ ≠ ((.slice ai am.length G) : Value).ownBlock) aJ ba) ∧ Zac (Kd.R (Kd.int .i64) 2 wc w.heap.size (fun k_ => some k_ ≠ ((.slice (some y) r.length I) : Value).ownBlock ∧ some k_ ≠ (aJ : Value).ownBlock) (.slice ai am.length G) aH) ∧ Zac (wc.heap[L]? = some (.cells #[.int .i64 s, (.slice ap D.length ag), (.slice ak P.length ah)] 66 (0, 0))) ∧ Zac (wc.heap[U]? = some (.cells #[.int .i64 0, .int .i64 0, .int .i64 0, (.slice none 0 0)] 39 (0, 0))) ∧ Zac (wc.heap[B]? = some (.cells #[.int .i64 s, .int .i64 0, .int .i64 0, (.slice none 0 0)] 39 (0, 0))) ∧ Zac (Below w.heap.size w wc))
   case first =>
    have H := cn.out
    clear cn
    by_cases bx : (rd r 0) ≥ 0; rotate_left
    ·rw [if_neg bx] at H
     have a6 : decide (0 ≤ (rd r 0)) = false := dF bx
     clear bx
     (first | rw [a6] | (simp only [Zcq, i32_w]; rw [a6]) | skip)
     have H' := mA H
     clear H
     go_wp2
     go_meet
     case rel => exact ⟨_, (am), H', ⟨by have := au.out; first | omega | exact Nat.le_refl _⟩, ⟨rP z.out⟩, ⟨rP x.out⟩, ⟨rP u.out⟩, ⟨bP c.out⟩, ⟨bP m.out⟩, ⟨bP d.out⟩, ⟨bW⟩⟩
    rw [if_pos bx] at H
    have a6 : decide (0 ≤ (rd r 0)) = true := dT bx
    clear bx
    (first | rw [a6] | (simp only [Zcq, i32_w]; rw [a6]) | skip)
    obtain ⟨hu, H⟩ := gE H
    obtain ⟨hv, H⟩ := gE H
    obtain ⟨d8, cS⟩ := nm ((am.set ((rd r 0) : Int).toNat 0) : List Int)
    rw [← cS.out] at H
    have H' := mA H
    clear H
    have co : 0 ≤ (0 : Int) := (by omega)
    have cp : 0 < (r.length : Int) := ofD
    obtain ⟨eA, fu, bz⟩ := zO (zJ z.out).2.2 0 co cp
    obtain rfl : y = eA := (by injection fu)
    have hx : (0 < r.length) = True := eq_true (by omega)
    (try rw [show ((0 : Int)).toNat = 0 from rfl] at bz)
    (try rw [Addr.add_zero'] at bz)
    replace co := eq_true co
    replace cp := eq_true cp
    have d9 : 0 ≤ ((rd r 0) : Int) := ofD
    have ea : ((rd r 0) : Int) < ((am.length : Int) : Int) := ofD
    obtain ⟨aW, h4, eb, ec, fv, h5, ed⟩ := yK u.out (by omega)
    (first | cases eb | (injection eb with ea_ en_ ec_; (first | subst ea_ | (injection ea_ with ea_; subst ea_)); subst ec_; clear en_))
    have fw := mA ec
    have h6 := mA ed
    clear ec fv ed
    obtain ⟨gT, gU⟩ := yF 0 u.out ((rd r 0) : Int) d9 ea
    replace d9 := eq_true d9
    replace ea := eq_true ea
    have cq := yI u.out ((rd r 0) : Int) 0
    go_wp2_with (first | ((with_reducible refine Zbq (t := 2) (p := 43) rfl ?_); refine Zdg (t := 2) (p := 43) (w1 := (wr.setCell ⟨aW, ((rd r 0) : Int).toNat, none⟩ (.int .i64 0))) ?_; intro ee hw; have hg : wr.grownBy ee (some aW) := (by rw [hw]; exact cq.2); have hp_ : Kd.R (Kd.int .i64) 2 ee w.heap.size (fun k_ => some k_ ≠ (.slice (some y) r.length I : Value).ownBlock ∧ some k_ ≠ (aJ : Value).ownBlock) (.slice (some ⟨aW, 0, none⟩) am.length G) d8 := (by rw [hw, cS.out]; exact cq.1); clear cq; replace z := mA (zR (v := (.slice (some ⟨aW, 0, none⟩) am.length G)) (v1 := (.slice (some ⟨aW, 0, none⟩) am.length G)) (ok := (fun k_ => some k_ ≠ (aJ : Value).ownBlock)) (rP z.out) hg (.inl rfl)); replace x := mA (zR (v := (.slice (some ⟨aW, 0, none⟩) am.length G)) (v1 := (.slice (some ⟨aW, 0, none⟩) am.length G)) (ok := (fun k_ => some k_ ≠ (.slice (some y) r.length I : Value).ownBlock)) (rP x.out) hg (.inl rfl)); replace c := mA (Zah (g := L) (o := .cells #[.int .i64 s, .slice ap D.length ag, .slice ak P.length ah] 66 (0, 0)) (bP c.out) hg (zN u.out c.out (by decide))); replace m := mA (Zah (g := U) (o := .cells #[.int .i64 0, .int .i64 0, .int .i64 0, .slice none 0 0] 39 (0, 0)) (bP m.out) hg (zN u.out m.out (by decide))); replace d := mA (Zah (g := B) (o := .cells #[.int .i64 s, .int .i64 0, .int .i64 0, .slice none 0 0] 39 (0, 0)) (bP d.out) hg (zN u.out d.out (by decide))); replace u := mA (hp_); replace HB := mA ((by rw [hw]; exact Za9 (HB.out) fw.out : Below w.heap.size w ee)); clear hg hw hp_))
    go_meet
    case rel => exact ⟨_, (d8), H', ⟨by have := au.out; first | omega | exact Nat.le_refl _⟩, ⟨rP z.out⟩, ⟨rP x.out⟩, ⟨rP u.out⟩, ⟨bP c.out⟩, ⟨bP m.out⟩, ⟨bP d.out⟩, ⟨bW⟩⟩
   case rest =>
    clear cn cO ey ez bf bX bY
    obtain ⟨kq, aH, HA, aq, z, x, u, c, m, d, HB⟩ := hcut
    have a := (zJ u.out).1
    rw [a] at u
    (try simp only [a])
    (try simp only [a] at c)
    (try simp only [a] at m)
    (try simp only [a] at d)
    (try simp only [a] at z)
    (try simp only [a] at x)
    cases kq with
    | zero => exact absurd HA.out (by simp [Zag.j1])
    | succ ef =>
     have H := HA.out
     clear HA
     simp only [Zag.j1] at H
     have H' := mA H
     clear H
     go_wp2
     go_loopg [6, 9] ef (fun kq v6 v9 w' => ∃ (aa : List Int) (aK : List Int) (T : Int) (W : List (List Int)) (O : Value), v9 = .int .i64 T ∧ Zac (Zag.l1 kq r aa aK T s D P s 0 0 W = some (r1, r2, r3, r4, r5)) ∧ Zac (kq ≤ ef) ∧ Zac (Kd.R (Kd.int .i64) 2 w' w.heap.size (fun k_ => some k_ ≠ (v6 : Value).ownBlock ∧ some k_ ≠ ((.slice ai aH.length G) : Value).ownBlock) (.slice (some y) r.length I) r) ∧ Zac (Kd.R (Kd.int .i64) 2 w' w.heap.size (fun k_ => some k_ ≠ ((.slice (some y) r.length I) : Value).ownBlock ∧ some k_ ≠ ((.slice ai aH.length G) : Value).ownBlock) v6 aa) ∧ Zac (Kd.R (Kd.int .i64) 2 w' w.heap.size (fun k_ => some k_ ≠ ((.slice (some y) r.length I) : Value).ownBlock ∧ some k_ ≠ (v6 : Value).ownBlock) (.slice ai aH.length G) aK) ∧ Zac (Kd.S (Kd.slice 2 (Kd.int .i64)) 22 w' w.heap.size (fun k_ => some k_ ≠ ((.slice (some y) r.length I) : Value).ownBlock ∧ some k_ ≠ (v6 : Value).ownBlock ∧ some k_ ≠ ((.slice ai aH.length G) : Value).ownBlock) O W) ∧ Zac (w'.heap[L]? = some (.cells #[.int .i64 s, (.slice ap D.length ag), (.slice ak P.length ah)] 66 (0, 0))) ∧ Zac (w'.heap[U]? = some (.cells #[.int .i64 0, .int .i64 0, .int .i64 0, (.slice none 0 0)] 39 (0, 0))) ∧ Zac (w'.heap[B]? = some (.cells #[.int .i64 s, .int .i64 0, .int .i64 0, O] 39 (0, 0))) ∧ Zac (Below w.heap.size w w'))
     case atStart => exact ⟨(ba), (aH), (0), (([] : List (List Int))), (.slice none 0 0), (eW), H', ⟨Nat.le_refl _⟩, ⟨by (try simp only [a]); exact rP z.out⟩, ⟨by (try simp only [a]); exact rP x.out⟩, ⟨by (try simp only [a]); exact rP u.out⟩, ⟨by (try simp only [a]); first | exact yU _ _ _ _ _ | exact yW _ _ _ _ _ | exact yX _ _ _ _ _ | exact yT _ _ _ _ _ | exact yR _ _ _ _ _⟩, ⟨by (try simp only [a]); exact bP c.out⟩, ⟨by (try simp only [a]); exact bP m.out⟩, ⟨by (try simp only [a]); exact bP d.out⟩, ⟨bW⟩⟩
     case round =>
      clear H'
      obtain ⟨aa, aK, T, W, O, rfl, HA, aI, z, x, u, l, c, m, d, HB⟩ := hrel
      have j := (zJ u.out).1
      rw [j] at u
      (try simp only [j])
      (try simp only [j] at c)
      (try simp only [j] at m)
      (try simp only [j] at d)
      (try simp only [j] at z)
      (try simp only [j] at x)
      (try simp only [j] at l)
      cases gk with
      | zero => exact absurd HA.out (by simp [Zag.l1])
      | succ k3 =>
       have H := HA.out
       clear HA
       simp only [Zag.l1] at H
       by_cases bB : T < (aa.length : Int); rotate_left
       ·rw [if_neg bB] at H
        have a7 := dF bB
        (try (have bZ := a7; simp only [a, j] at bZ))
        clear bB
        by_cases bC : (aa.length : Int) > 16
        ·rw [if_pos bC] at H
         have bn : decide (16 < (aa.length : Int)) = true := dT bC
         (try (have b0 := bn; simp only [a, j] at b0))
         have bo : decide (16 < aa.length) = true := decide_eq_true (by omega)
         (try (have b1 := bo; simp only [a, j] at b1))
         clear bC
         simp only [Option.some.injEq, Prod.mk.injEq] at H
         obtain ⟨rfl, rfl, rfl, rfl, rfl⟩ := H
         obtain ⟨h7, h8, fx⟩ := zP x.out
         subst fx
         have hy := ax.out
         have hz := aw.out
         have hA := af.out
         have hB := az.out
         have gg : wr.cell? ⟨U, 0, none⟩ = some (.int .i64 0) := bc m 0
         have gh : wr.cell? ⟨U, 1, none⟩ = some (.int .i64 0) := bc m 1
         have gi : wr.cell? ⟨U, 2, none⟩ = some (.int .i64 0) := bc m 2
         have gj : wr.cell? ⟨U, 3, none⟩ = some (.slice none 0 0) := bc m 3
         have gl := Zae m.out 0
         have gm := Zae m.out 1
         have gn := Zae m.out 2
         have gp := Zae m.out 3
         go_wp2
         refine bodyPost_ret (Zdh rfl _ _ U 39 #[.int .i64 0, .int .i64 0, .int .i64 0, .slice none 0 0] (0, 0) _ rfl (by (with_reducible repeat (first | refine Zad ?_ _ | refine Zaa ?_ | refine Zab ?_ _)); refine Zau (cs := #[.int .i64 0, .int .i64 0, .int .i64 0, .slice none 0 0]) ?_ 3 _ rfl; (with_reducible repeat (first | refine Zad ?_ _ | refine Zaa ?_ | refine Zab ?_ _)); refine Zau (cs := #[.int .i64 0, .int .i64 0, .int .i64 0, .slice none 0 0]) ?_ 2 _ rfl; (with_reducible repeat (first | refine Zad ?_ _ | refine Zaa ?_ | refine Zab ?_ _)); refine Zau (cs := #[.int .i64 0, .int .i64 0, .int .i64 0, .slice none 0 0]) ?_ 1 _ rfl; (with_reducible repeat (first | refine Zad ?_ _ | refine Zaa ?_ | refine Zab ?_ _)); refine Zau (cs := #[.int .i64 0, .int .i64 0, .int .i64 0, .slice none 0 0]) ?_ 0 _ rfl; exact bP m.out) Tryd.underlying39 rfl (by kernel_rfl)) rfl ?_
         exact ⟨_, by first | rfl | (simp [errW_none, errW_some] <;> rfl) | (simp only [← bb]; first | rfl | (simp [errW_none, errW_some] <;> rfl)) | (simp [*, errW_none, errW_some] <;> rfl), by first | exact yU _ _ _ _ _ | exact yW _ _ _ _ _ | exact yX _ _ _ _ _ | exact yT _ _ _ _ _ | exact yR _ _ _ _ _, bW⟩
        rw [if_neg bC] at H
        have bn : decide (16 < (aa.length : Int)) = false := dF bC
        (try (have b0 := bn; simp only [a, j] at b0))
        have bo : decide (16 < aa.length) = false := decide_eq_false (by omega)
        (try (have b1 := bo; simp only [a, j] at b1))
        clear bC
        have H' := mA H
        clear H
        obtain ⟨eg, eh, fy⟩ := zP x.out
        subst fy
        go_wp2
        go_loopg [14] k3 (fun kq v14 w' => ∃ (X : Int) (Y : Int), v14 = .int .i64 X ∧ Zac (Zag.l3 kq aa (aa.length : Int) X s D P s 0 Y W = some (r1, r2, r3, r4, r5)) ∧ Zac (kq ≤ k3) ∧ Zac (Kd.R (Kd.int .i64) 2 w' w.heap.size (fun _ => True) (.slice eg aa.length eh) aa) ∧ Zac (Kd.S (Kd.slice 2 (Kd.int .i64)) 22 w' w.heap.size (fun k_ => some k_ ≠ ((.slice eg aa.length eh) : Value).ownBlock) O W) ∧ Zac (w'.heap[L]? = some (.cells #[.int .i64 s, (.slice ap D.length ag), (.slice ak P.length ah)] 66 (0, 0))) ∧ Zac (w'.heap[U]? = some (.cells #[.int .i64 0, .int .i64 0, .int .i64 0, (.slice none 0 0)] 39 (0, 0))) ∧ Zac (w'.heap[B]? = some (.cells #[.int .i64 s, .int .i64 0, .int .i64 Y, O] 39 (0, 0))) ∧ Zac (Below w.heap.size w w'))
        case atStart => exact ⟨(0), (0), (eW), H', ⟨Nat.le_refl _⟩, ⟨by (try simp only [a]); (try simp only [j]); (with_reducible repeat (first | apply zC | apply zD | apply zA)); exact zB x.out (fun _ hk => trivial)⟩, ⟨by (try simp only [a]); (try simp only [j]); (with_reducible repeat (first | apply zL | apply zM | apply zH)); exact zG l.out (fun _ hk => hk.2.1)⟩, ⟨by (try simp only [a]); (try simp only [j]); exact bP c.out⟩, ⟨by (try simp only [a]); (try simp only [j]); exact bP m.out⟩, ⟨by (try simp only [a]); (try simp only [j]); exact bP d.out⟩, ⟨bW⟩⟩
        case round =>
         clear H' a7 bn bo
         obtain ⟨X, Y, rfl, HA, aG, x, l, c, m, d, HB⟩ := hrel
         cases gk with
         | zero => exact absurd HA.out (by simp [Zag.l3])
         | succ k4 =>
          have H := HA.out
          clear HA
          simp only [Zag.l3] at H
          by_cases bD : X < (aa.length : Int); rotate_left
          ·rw [if_neg bD] at H
           have b2 := dF bD
           (try (have b3 := b2; simp only [a, j] at b3))
           clear bD
           simp only [Option.some.injEq, Prod.mk.injEq] at H
           obtain ⟨rfl, rfl, rfl, rfl, rfl⟩ := H
           have gV := ay.out
           have gW := ae.out
           have gX := az.out
           have gY := af.out
           have fz : wr.cell? ⟨B, 0, none⟩ = some (.int .i64 s) := bc d 0
           have fA : wr.cell? ⟨B, 1, none⟩ = some (.int .i64 0) := bc d 1
           have fB : wr.cell? ⟨B, 2, none⟩ = some (.int .i64 Y) := bc d 2
           have fC : wr.cell? ⟨B, 3, none⟩ = some (O) := bc d 3
           have fD := Zae d.out 0
           have fE := Zae d.out 1
           have fF := Zae d.out 2
           have fG := Zae d.out 3
           have gZ := ax.out
           have g0 := aw.out
           have fH : wr.cell? ⟨U, 0, none⟩ = some (.int .i64 0) := bc m 0
           have fI : wr.cell? ⟨U, 1, none⟩ = some (.int .i64 0) := bc m 1
           have fJ : wr.cell? ⟨U, 2, none⟩ = some (.int .i64 0) := bc m 2
           have fK : wr.cell? ⟨U, 3, none⟩ = some (.slice none 0 0) := bc m 3
           have fL := Zae m.out 0
           have fM := Zae m.out 1
           have fN := Zae m.out 2
           have fO := Zae m.out 3
           obtain ⟨cT, cU, eB⟩ := yE l.out
           subst eB
           go_wp2
           refine bodyPost_ret (Zdh rfl _ _ U 39 #[.int .i64 s, .int .i64 0, .int .i64 Y, .slice cT W.length cU] (0, 0) _ rfl (by (with_reducible repeat (first | refine Zad ?_ _ | refine Zaa ?_ | refine Zab ?_ _)); refine Zau (cs := #[.int .i64 s, .int .i64 0, .int .i64 Y, .slice none 0 0]) ?_ 3 _ rfl; (with_reducible repeat (first | refine Zad ?_ _ | refine Zaa ?_ | refine Zab ?_ _)); refine Zau (cs := #[.int .i64 s, .int .i64 0, .int .i64 0, .slice none 0 0]) ?_ 2 _ rfl; (with_reducible repeat (first | refine Zad ?_ _ | refine Zaa ?_ | refine Zab ?_ _)); refine Zau (cs := #[.int .i64 s, .int .i64 0, .int .i64 0, .slice none 0 0]) ?_ 1 _ rfl; (with_reducible repeat (first | refine Zad ?_ _ | refine Zaa ?_ | refine Zab ?_ _)); refine Zau (cs := #[.int .i64 0, .int .i64 0, .int .i64 0, .slice none 0 0]) ?_ 0 _ rfl; exact bP m.out) Tryd.underlying39 rfl (by kernel_rfl)) rfl ?_
           exact ⟨_, by first | rfl | (simp [errW_none, errW_some] <;> rfl) | (simp only [← bb]; first | rfl | (simp [errW_none, errW_some] <;> rfl)) | (simp [*, errW_none, errW_some] <;> rfl), by (with_reducible repeat (first | apply zL | apply zM | apply zH)); exact zG (zE (p := ⟨U, 3, none⟩) (zE (p := ⟨U, 2, none⟩) (zE (p := ⟨U, 1, none⟩) (zE (p := ⟨U, 0, none⟩) (zX l.out m.out (by decide)) (fun _ hk => hk.2) (.int .i64 s)) (fun _ hk => hk.2) (.int .i64 0)) (fun _ hk => hk.2) (.int .i64 Y)) (fun _ hk => hk.2) (.slice cT W.length cU)) (fun _ hk => trivial), bW⟩
          rw [if_pos bD] at H
          have b2 := dT bD
          (try (have b3 := b2; simp only [a, j] at b3))
          clear bD
          obtain ⟨hC, H⟩ := gE H
          obtain ⟨eC, H⟩ := gE H
          (try (have eD := eC; simp only [a, j] at eD))
          obtain ⟨hD, H⟩ := gE H
          obtain ⟨eE, H⟩ := gE H
          (try (have eF := eE; simp only [a, j] at eF))
          obtain ⟨eG, bs⟩ := nm (rdOf false P (rd aa X))
          rw [← bs.out] at H
          by_cases b4 : eG = true; rotate_left
          ·replace b4 := Bool.eq_false_iff.mpr b4
           subst b4
           rw [iF] at H
           have H' := mA H
           clear H
           try go_wp2
           replace x := mA (zA x.out)
           replace l := mA (zH l.out)
           replace c := mA (Zaa c.out)
           replace m := mA (Zaa m.out)
           replace d := mA (Zaa d.out)
           replace HB := mA (Za1 HB.out)
           have aX : 0 ≤ (X : Int) := ofD
           have aY : X < (aa.length : Int) := ofD
           obtain ⟨b5, cr, aM⟩ := zO (zJ x.out).2.2 X aX aY
           cases cr
           replace aX := eq_true aX
           replace aY := eq_true aY
           have aZ : 0 ≤ ((rd aa X) : Int) := ofD
           have a0 : (rd aa X) < (P.length : Int) := ofD
           obtain ⟨a8, ct, aj⟩ := yD bT.out (rd aa X) aZ a0
           (try rw [← bs.out] at aj)
           have bg := aj
           cases ct
           replace aj := (HB.out.cell (wB w aj)).trans aj
           replace aZ := eq_true aZ
           replace a0 := eq_true a0
           refine Zck (n := 8) (S := fun w' => w'.cell? ⟨L, 0, none⟩ = some (.int .i64 s) ∧ w'.cell? ⟨L, 1, none⟩ = some (.slice ap D.length ag) ∧ w'.cell? ⟨L, 2, none⟩ = some (.slice (some a8) P.length ah) ∧ w'.cell? (b5.add (X).toNat) = some (.int .i64 (rd aa X)) ∧ w'.cell? (a8.add ((rd aa X)).toNat) = some (.bool false)) (ds := []) #[false, false, false, false, false, false, false, false] (by kernel_rfl) rfl rfl ⟨bc c 0, bc c 1, bc c 2, aM, (cB HB bg :)⟩ (fun hHeld => ?_); refine Zb5 Zag.tab32 Zag.bits32 (fun HT_ HW_ => ?_)
           generalize wr.drew = w106 at x l c m d HB aM aj hHeld ⊢
           refine Zas (i := 0) (N := some 129) (Zap HT_.out (by kernel_rfl)) ?_
           refine Zas (i := 2) (N := some 131) (Zap HT_.out (by kernel_rfl)) ?_
           refine Zas (i := 3) (N := some 132) (Zap HT_.out (by kernel_rfl)) ?_
           refine Zas (i := 4) (N := some 133) (Zap HT_.out (by kernel_rfl)) ?_
           refine Zbg (i := 1) (N := some 130) (Za0 HT_.out HW_.out (by kernel_rfl)) hHeld ?_
           refine Zbg (i := 5) (N := some 134) (Za0 HT_.out HW_.out (by kernel_rfl)) hHeld ?_
           refine Zas (i := 6) (N := some 135) (Zap HT_.out (by kernel_rfl)) ?_
           refine Zbg (i := 7) (N := some 136) (Za0 HT_.out HW_.out (by kernel_rfl)) hHeld ?_
           refine done_ (Zcs HT_.out (by kernel_rfl)) ?_
           try go_wp2
           go_roundg k4
           case measure => have := au.out; have := aq.out; have := aI.out; have := aG.out; omega
           case rel => exact ⟨(wrap64 (X + 1)), (Y), (eW), H', ⟨by have := au.out; have := aq.out; have := aI.out; have := aG.out; omega⟩, ⟨by (try simp only [a]); (try simp only [j]); exact rP x.out⟩, ⟨by (try simp only [a]); (try simp only [j]); exact sP l.out⟩, ⟨by (try simp only [a]); (try simp only [j]); exact bP c.out⟩, ⟨by (try simp only [a]); (try simp only [j]); exact bP m.out⟩, ⟨by (try simp only [a]); (try simp only [j]); exact bP d.out⟩, ⟨bW⟩⟩
          subst b4
          rw [if_pos rfl] at H
          obtain ⟨b6, fP, H⟩ := bA H
          have H' := mA H
          clear H
          try go_wp2
          replace x := mA (zA x.out)
          replace l := mA (zH l.out)
          replace c := mA (Zaa c.out)
          replace m := mA (Zaa m.out)
          replace d := mA (Zaa d.out)
          replace HB := mA (Za1 HB.out)
          have aX : 0 ≤ (X : Int) := ofD
          have aY : X < (aa.length : Int) := ofD
          obtain ⟨b5, cr, aM⟩ := zO (zJ x.out).2.2 X aX aY
          cases cr
          replace aX := eq_true aX
          replace aY := eq_true aY
          have aZ : 0 ≤ ((rd aa X) : Int) := ofD
          have a0 : (rd aa X) < (P.length : Int) := ofD
          obtain ⟨a8, ct, aj⟩ := yD bT.out (rd aa X) aZ a0
          (try rw [← bs.out] at aj)
          have bg := aj
          cases ct
          replace aj := (HB.out.cell (wB w aj)).trans aj
          replace aZ := eq_true aZ
          replace a0 := eq_true a0
          refine Zck (n := 8) (S := fun w' => w'.cell? ⟨L, 0, none⟩ = some (.int .i64 s) ∧ w'.cell? ⟨L, 1, none⟩ = some (.slice ap D.length ag) ∧ w'.cell? ⟨L, 2, none⟩ = some (.slice (some a8) P.length ah) ∧ w'.cell? (b5.add (X).toNat) = some (.int .i64 (rd aa X)) ∧ w'.cell? (a8.add ((rd aa X)).toNat) = some (.bool true)) (ds := []) #[false, false, false, false, false, false, false, false] (by kernel_rfl) rfl rfl ⟨bc c 0, bc c 1, bc c 2, aM, (cB HB bg :)⟩ (fun hHeld => ?_); refine Zb5 Zag.tab32 Zag.bits32 (fun HT_ HW_ => ?_)
          generalize wr.drew = fQ at x l c m d HB aM aj hHeld ⊢
          refine Zas (i := 0) (N := some 129) (Zap HT_.out (by kernel_rfl)) ?_
          refine Zas (i := 2) (N := some 131) (Zap HT_.out (by kernel_rfl)) ?_
          refine Zas (i := 3) (N := some 132) (Zap HT_.out (by kernel_rfl)) ?_
          refine Zas (i := 4) (N := some 133) (Zap HT_.out (by kernel_rfl)) ?_
          refine Zbg (i := 1) (N := some 130) (Za0 HT_.out HW_.out (by kernel_rfl)) hHeld ?_
          refine Zbg (i := 5) (N := some 134) (Za0 HT_.out HW_.out (by kernel_rfl)) hHeld ?_
          refine Zas (i := 6) (N := some 135) (Zap HT_.out (by kernel_rfl)) ?_
          refine Zbg (i := 7) (N := some 136) (Za0 HT_.out HW_.out (by kernel_rfl)) hHeld ?_
          refine done_ (Zcs HT_.out (by kernel_rfl)) ?_
          try go_wp2
          replace x := mA (zA x.out)
          replace l := mA (zH l.out)
          replace c := mA (Zaa c.out)
          replace m := mA (Zaa m.out)
          replace d := mA (Zaa d.out)
          replace HB := mA (Za1 HB.out)
          refine Zck (n := 7) (S := fun w' => w'.cell? ⟨B, 0, none⟩ = some (.int .i64 s) ∧ w'.cell? ⟨B, 1, none⟩ = some (.int .i64 0) ∧ w'.cell? ⟨B, 2, none⟩ = some (.int .i64 Y) ∧ w'.cell? ⟨B, 3, none⟩ = some (O)) (ds := [6]) #[false, false, false, false, false, false, false] (by kernel_rfl) rfl rfl ⟨bc d 0, bc d 1, bc d 2, bc d 3⟩ (fun hHeld => ?_)
          generalize fQ.drew = w104 at x l c m d HB hHeld ⊢
          refine Zas (i := 0) (N := some 137) (by kernel_rfl) ?_
          refine Zas (i := 2) (N := some 139) (by kernel_rfl) ?_
          refine Zbg (i := 1) (N := some 138) (by kernel_rfl) hHeld ?_
          refine one_ (i := 3) (N := some 140) #[true, true, true, true, false, false, false] rfl rfl (by kernel_rfl) (by decide) (fun K hK => ?_)
          refine goes_ Tryd.func88 (by kernel_rfl) rfl #[.int .i64 X] (by rfl) rfl rfl (by (try simp only [List.map_toArray, List.map_cons, List.map_nil]); first | done | rfl | (simp only [List.length_drop, List.length_take]; rfl)) ?_
          with_reducible refine (Zcd.calls X b6 _ fP.out).mono ?_
          rintro e w' ⟨rfl, ⟨nd, rfl⟩⟩
          refine ⟨_, rfl, ?_⟩
          refine hK.out _ _ ⟨bc d 0, bc d 1, bc d 2, bc d 3⟩ (fun hHeld => ?_)
          clear hK K
          refine putS 140 ?_
          refine Zas (i := 4) (N := some 141) (by kernel_rfl) ?_
          refine Zas (i := 5) (N := some 142) (by kernel_rfl) ?_
          refine last_ (i := 6) (N := none) #[true, true, true, true, true, true, true] rfl rfl (by kernel_rfl) (by decide) (fun K hK => ?_)
          have hE : w104.cell? ⟨B, 2, none⟩ = some (.int .i64 Y) := bc d 2
          have g1 := Zae d.out 2
          have fR := ae.out
          have fS := af.out
          have fT := ay.out
          have fU := az.out
          refine skip_ (w1 := ?_) (by rfl) rfl ?_ ?_
          rotate_left
          ·go_simp
           rfl
          refine hK.out _ _ ?_
          clear hK K
          refine done_ (by kernel_rfl) ?_
          try go_wp2
          go_roundg k4
          case measure => have := au.out; have := aq.out; have := aI.out; have := aG.out; omega
          case rel => exact ⟨(wrap64 (X + 1)), (Go.bits .or .i64 Y b6), (eW), H', ⟨by have := au.out; have := aq.out; have := aI.out; have := aG.out; omega⟩, ⟨by (try simp only [a]); (try simp only [j]); (with_reducible repeat (first | apply zC | apply zD | apply zA)); exact zB (zF (p := ⟨B, 2, none⟩) (zV x.out d.out (by decide)) (fun _ hk => hk.2) (.int .i64 (Go.bits .or .i64 Y b6))) (fun _ hk => trivial)⟩, ⟨by (try simp only [a]); (try simp only [j]); (with_reducible repeat (first | apply zL | apply zM | apply zH)); exact zG (zE (p := ⟨B, 2, none⟩) (zX l.out d.out (by decide)) (fun _ hk => hk.2) (.int .i64 (Go.bits .or .i64 Y b6))) (fun _ hk => hk.1)⟩, ⟨by (try simp only [a]); (try simp only [j]); (with_reducible repeat (first | refine Zad ?_ _ | refine Zaa ?_ | refine Zab ?_ _)); refine Zao ?_ ae.out _; exact bP c.out⟩, ⟨by (try simp only [a]); (try simp only [j]); (with_reducible repeat (first | refine Zad ?_ _ | refine Zaa ?_ | refine Zab ?_ _)); refine Zao ?_ af.out _; exact bP m.out⟩, ⟨by (try simp only [a]); (try simp only [j]); (with_reducible repeat (first | refine Zad ?_ _ | refine Zaa ?_ | refine Zab ?_ _)); refine Zau (cs := #[.int .i64 s, .int .i64 0, .int .i64 Y, O]) ?_ 2 _ rfl; exact bP d.out⟩, ⟨bW⟩⟩
       rw [if_pos bB] at H
       have a7 := dT bB
       (try (have bZ := a7; simp only [a, j] at bZ))
       clear bB
       obtain ⟨ei, b7⟩ : ∃ y_ : List Int, y_ = (([] : List Int)) := ⟨_, rfl⟩
       replace H : (Zag.l2 k3 r aa aK T ei 0 s D P s 0 0 W) = some (r1, r2, r3, r4, r5) := by rw [b7]; with_reducible exact H
       have cV := mA b7
       clear b7
       have H' := mA H
       clear H
       obtain ⟨h9, ia, fV⟩ := zP x.out
       subst fV
       go_wp2_with (first | ((with_reducible refine Zat (N := 50) rfl ?_); refine yP (Kd.int .i64) _ 2 ?hg (N := 50) ?hd (xs := ([] : List Int)) (inner := []) (ok := fun _ => True) (okp := fun _ => True) ?hr ?hp (fun _ hk => hk) trivial (Below.refl _ _) (Nat.le_refl _) (by simp) ?_; (case hd => rfl); (case hg => rfl); (case hr => first | (go_simp; done) | (go_simp; rfl)); (case hp => exact (Reps.none _ _)); intro ib ir aR hb hg_ hnew_; clear hg_ hnew_; (first | rw [← cV.out] at aR | (simp only [Int.reduceToNat] at aR; rw [← cV.out] at aR)); replace l := mA (yQ (sP l.out) (zU aR) hb); have eH := mA (zS (yC (yC (yC aR (zI (rP z.out))) (zI (rP x.out))) (zI (rP u.out))) (Zaj (bW))); replace z := mA (zZ (rP z.out) (zU aR) hb); replace x := mA (zZ (rP x.out) (zU aR) hb); replace u := mA (zZ (rP u.out) (zU aR) hb); replace c := mA (blkB c.out hb); replace m := mA (blkB m.out hb); replace d := mA (blkB d.out hb); replace HB := mA (Zaf (bW) hb); clear hb aR))
       go_loopg [6, 10, 11] k3 (fun kq v6 v10 v11 w' => ∃ (A : List Int) (E : List Int) (al : List Int) (ac : Int), v11 = .int .i64 ac ∧ Zac (Zag.l2 kq r A E T al ac s D P s 0 0 W = some (r1, r2, r3, r4, r5)) ∧ Zac (kq ≤ k3) ∧ Zac (Kd.R (Kd.int .i64) 2 w' w.heap.size (fun k_ => some k_ ≠ (v6 : Value).ownBlock ∧ some k_ ≠ ((.slice ai aK.length G) : Value).ownBlock ∧ some k_ ≠ (v10 : Value).ownBlock) (.slice (some y) r.length I) r) ∧ Zac (Kd.R (Kd.int .i64) 2 w' w.heap.size (fun k_ => some k_ ≠ ((.slice (some y) r.length I) : Value).ownBlock ∧ some k_ ≠ ((.slice ai aK.length G) : Value).ownBlock ∧ some k_ ≠ (v10 : Value).ownBlock) v6 A) ∧ Zac (Kd.R (Kd.int .i64) 2 w' w.heap.size (fun k_ => some k_ ≠ ((.slice (some y) r.length I) : Value).ownBlock ∧ some k_ ≠ (v6 : Value).ownBlock ∧ some k_ ≠ (v10 : Value).ownBlock) (.slice ai aK.length G) E) ∧ Zac (Kd.R (Kd.int .i64) 2 w' w.heap.size (fun k_ => some k_ ≠ ((.slice (some y) r.length I) : Value).ownBlock ∧ some k_ ≠ (v6 : Value).ownBlock ∧ some k_ ≠ ((.slice ai aK.length G) : Value).ownBlock) v10 al) ∧ Zac (Kd.S (Kd.slice 2 (Kd.int .i64)) 22 w' w.heap.size (fun k_ => some k_ ≠ ((.slice (some y) r.length I) : Value).ownBlock ∧ some k_ ≠ (v6 : Value).ownBlock ∧ some k_ ≠ ((.slice ai aK.length G) : Value).ownBlock ∧ some k_ ≠ (v10 : Value).ownBlock) O W) ∧ Zac (w'.heap[L]? = some (.cells #[.int .i64 s, (.slice ap D.length ag), (.slice ak P.length ah)] 66 (0, 0))) ∧ Zac (w'.heap[U]? = some (.cells #[.int .i64 0, .int .i64 0, .int .i64 0, (.slice none 0 0)] 39 (0, 0))) ∧ Zac (w'.heap[B]? = some (.cells #[.int .i64 s, .int .i64 0, .int .i64 0, O] 39 (0, 0))) ∧ Zac (Below w.heap.size w w'))
       case atStart => exact ⟨(aa), (aK), (ei), (0), (eW), H', ⟨Nat.le_refl _⟩, ⟨by (try simp only [a]); (try simp only [j]); (with_reducible repeat (first | apply zC | apply zD | apply zA)); exact zB z.out (fun _ hk => ⟨hk.1.1, ⟨hk.1.2, hk.2⟩⟩)⟩, ⟨by (try simp only [a]); (try simp only [j]); (with_reducible repeat (first | apply zC | apply zD | apply zA)); exact zB x.out (fun _ hk => ⟨hk.1.1, ⟨hk.1.2, hk.2⟩⟩)⟩, ⟨by (try simp only [a]); (try simp only [j]); (with_reducible repeat (first | apply zC | apply zD | apply zA)); exact zB u.out (fun _ hk => ⟨hk.1.1, ⟨hk.1.2, hk.2⟩⟩)⟩, ⟨by (try simp only [a]); (try simp only [j]); (with_reducible repeat (first | apply zC | apply zD | apply zA)); exact zB eH.out (fun _ hk => ⟨hk.1.1.2, ⟨hk.1.2, hk.2⟩⟩)⟩, ⟨by (try simp only [a]); (try simp only [j]); (with_reducible repeat (first | apply zL | apply zM | apply zH)); exact zG l.out (fun _ hk => ⟨hk.1.1, ⟨hk.1.2.1, ⟨hk.1.2.2, hk.2⟩⟩⟩)⟩, ⟨by (try simp only [a]); (try simp only [j]); exact bP c.out⟩, ⟨by (try simp only [a]); (try simp only [j]); exact bP m.out⟩, ⟨by (try simp only [a]); (try simp only [j]); exact bP d.out⟩, ⟨bW⟩⟩
       case round =>
        clear H' a7
        obtain ⟨A, E, al, ac, rfl, HA, aG, z, x, u, J, l, c, m, d, HB⟩ := hrel
        have q := (zJ u.out).1
        rw [q] at u
        (try simp only [q])
        (try simp only [q] at c)
        (try simp only [q] at m)
        (try simp only [q] at d)
        (try simp only [q] at z)
        (try simp only [q] at x)
        (try simp only [q] at J)
        (try simp only [q] at l)
        cases gk with
        | zero => exact absurd HA.out (by simp [Zag.l2])
        | succ k4 =>
         have H := HA.out
         clear HA
         simp only [Zag.l2] at H
         by_cases bE : ac < s; rotate_left
         ·rw [if_neg bE] at H
          have cW := dF bE
          clear bE
          by_cases cX : W.length < 5864062014805; rotate_left
          ·rw [if_neg cX] at H
           exact absurd H (by simp)
          rw [if_pos cX] at H
          have eI := mA cX
          clear cX
          obtain ⟨bh, cY⟩ := nm ((W ++ [al]) : List (List Int))
          rw [← cY.out] at H
          have H' := mA H
          clear H
          have hF := aw.out
          have hG := ax.out
          have hH := ae.out
          have hI := ay.out
          have gq : wr.cell? ⟨L, 0, none⟩ = some (.int .i64 s) := bc c 0
          have gr : wr.cell? ⟨L, 1, none⟩ = some (.slice ap D.length ag) := bc c 1
          have gs : wr.cell? ⟨L, 2, none⟩ = some (.slice ak P.length ah) := bc c 2
          have gu := Zae c.out 0
          have gv := Zae c.out 1
          have gw := Zae c.out 2
          have hJ := az.out
          have hL := af.out
          have gx : wr.cell? ⟨B, 0, none⟩ = some (.int .i64 s) := bc d 0
          have gy : wr.cell? ⟨B, 1, none⟩ = some (.int .i64 0) := bc d 1
          have gz : wr.cell? ⟨B, 2, none⟩ = some (.int .i64 0) := bc d 2
          have gA : wr.cell? ⟨B, 3, none⟩ = some (O) := bc d 3
          have gB := Zae d.out 0
          have gC := Zae d.out 1
          have gD := Zae d.out 2
          have gF := Zae d.out 3
          obtain ⟨ej, ek, fW⟩ := zP J.out
          subst fW
          go_wp2_with (first | ((with_reducible refine Za6 (b := .append) (xs := #[.tmp 113, .tmp 115]) rfl ?_); at_builtin; refine Kd.S_append (Kd.slice 2 (Kd.int .i64)) (w0 := w) w.heap.size rfl (.tmp 113) (.tmp 115) 37 22 (.slice none 0 0) 24 rfl Tryd.underlying37 info22 rfl (by decide) (by omega) O W al [.slice ej al.length ek] (fun k_ => some k_ ≠ (.slice (some y) r.length I : Value).ownBlock ∧ some k_ ≠ (u6 : Value).ownBlock ∧ some k_ ≠ (.slice ai E.length G : Value).ownBlock) (fun k_ => some k_ = (.slice ej al.length ek : Value).ownBlock) rfl rfl ?aP (fun k_ hk_ => ((zB (ok' := fun k_ => ((fun k_ => some k_ ≠ (.slice (some y) r.length I : Value).ownBlock ∧ some k_ ≠ (u6 : Value).ownBlock ∧ some k_ ≠ (.slice ai E.length G : Value).ownBlock)) k_ ∧ some k_ ≠ (O : Value).ownBlock) (yG (J.out) (yH l.out) (by decide)) (fun k_ hk => ⟨⟨hk.1.1, ⟨hk.1.2.1, hk.1.2.2⟩⟩, hk.2⟩))).1 k_ hk_.symm) ?aF ?aO ?aB ?aS ?aL ?_; (case aP => exact Kd.M_row (zB (xC rfl (zB (ok' := fun k_ => ((fun k_ => some k_ ≠ (.slice (some y) r.length I : Value).ownBlock ∧ some k_ ≠ (u6 : Value).ownBlock ∧ some k_ ≠ (.slice ai E.length G : Value).ownBlock)) k_ ∧ some k_ ≠ (O : Value).ownBlock) (yG (J.out) (yH l.out) (by decide)) (fun k_ hk => ⟨⟨hk.1.1, ⟨hk.1.2.1, hk.1.2.2⟩⟩, hk.2⟩))) (fun _ h_ => h_))); (case aB => exact (bW)); (case aF => exact (fun k_ hk => ⟨zT (zI (rP z.out)) k_ hk, zT (zI (rP x.out)) k_ hk, zT (zI (rP u.out)) k_ hk⟩)); (case aO => exact (by (with_reducible repeat (first | apply zL | apply zM | apply zH)); exact zG l.out (fun k_ hk => ⟨⟨hk.1, ⟨hk.2.1, hk.2.2.1⟩⟩, fun e_ => hk.2.2.2 e_⟩))); (case aS => exact (Zaj (bW))); (case aL => have := eI.out; omega); intro ic it ho hb hg hat; rw [← cY.out] at ho; replace z := mA (yB (rP z.out) (yH (sP l.out)) (by decide) hg); replace x := mA (yB (rP x.out) (yH (sP l.out)) (by decide) hg); replace u := mA (yB (rP u.out) (yH (sP l.out)) (by decide) hg); replace c := mA (Zah (g := L) (o := .cells #[.int .i64 s, .slice ap D.length ag, .slice ak P.length ah] 66 (0, 0)) (bP c.out) hg (yN l.out c.out (by decide))); replace m := mA (Zah (g := U) (o := .cells #[.int .i64 0, .int .i64 0, .int .i64 0, .slice none 0 0] 39 (0, 0)) (bP m.out) hg (yN l.out m.out (by decide))); replace d := mA (Zah (g := B) (o := .cells #[.int .i64 s, .int .i64 0, .int .i64 0, O] 39 (0, 0)) (bP d.out) hg (yN l.out d.out (by decide))); replace HB := mA (hb); have cZ := mA (ho); clear l J ho hb hg hat; obtain ⟨bu, bv, fX⟩ := yE cZ.out; subst fX; obtain ⟨gG, gH, gI, gJ⟩ := Zbl d.out; obtain ⟨gK, gL, gM, gN⟩ := frz4 d.out))
          (try simp only [← j, ← q])
          go_roundg k4
          case measure => have := au.out; have := aq.out; have := aI.out; have := aG.out; omega
          case rel => exact ⟨(A), (E), (wrap64 (T + 1)), (bh), (.slice bu bh.length bv), (eW), H', ⟨by have := au.out; have := aq.out; have := aI.out; have := aG.out; omega⟩, ⟨by (try simp only [a]); (try simp only [j]); (try simp only [q]); (with_reducible repeat (first | apply zC | apply zD | apply zA)); exact zB (zF (p := ⟨B, 3, none⟩) (zV z.out d.out (by decide)) (fun _ hk => hk.2) (.slice bu bh.length bv)) (fun _ hk => ⟨hk.1.1, hk.1.2.1⟩)⟩, ⟨by (try simp only [a]); (try simp only [j]); (try simp only [q]); (with_reducible repeat (first | apply zC | apply zD | apply zA)); exact zB (zF (p := ⟨B, 3, none⟩) (zV x.out d.out (by decide)) (fun _ hk => hk.2) (.slice bu bh.length bv)) (fun _ hk => ⟨hk.1.1, hk.1.2.1⟩)⟩, ⟨by (try simp only [a]); (try simp only [j]); (try simp only [q]); (with_reducible repeat (first | apply zC | apply zD | apply zA)); exact zB (zF (p := ⟨B, 3, none⟩) (zV u.out d.out (by decide)) (fun _ hk => hk.2) (.slice bu bh.length bv)) (fun _ hk => ⟨hk.1.1, hk.1.2.1⟩)⟩, ⟨by (try simp only [a]); (try simp only [j]); (try simp only [q]); (with_reducible repeat (first | apply zL | apply zM | apply zH)); exact zG (zE (p := ⟨B, 3, none⟩) (zX cZ.out d.out (by decide)) (fun _ hk => hk.2) (.slice bu bh.length bv)) (fun _ hk => ⟨hk.1.1, ⟨hk.1.2.1, hk.1.2.2⟩⟩)⟩, ⟨by (try simp only [a]); (try simp only [j]); (try simp only [q]); (with_reducible repeat (first | refine Zad ?_ _ | refine Zaa ?_ | refine Zab ?_ _)); refine Zao ?_ ae.out _; exact bP c.out⟩, ⟨by (try simp only [a]); (try simp only [j]); (try simp only [q]); (with_reducible repeat (first | refine Zad ?_ _ | refine Zaa ?_ | refine Zab ?_ _)); refine Zao ?_ af.out _; exact bP m.out⟩, ⟨by (try simp only [a]); (try simp only [j]); (try simp only [q]); (with_reducible repeat (first | refine Zad ?_ _ | refine Zaa ?_ | refine Zab ?_ _)); refine Zau (cs := #[.int .i64 s, .int .i64 0, .int .i64 0, O]) ?_ 3 _ rfl; exact bP d.out⟩, ⟨bW⟩⟩
         rw [if_pos bE] at H
         have cW := dT bE
         clear bE
         obtain ⟨eJ, H⟩ := gE H
         obtain ⟨c0, H⟩ := gE H
         (try (have eK := c0; simp only [a, j, q] at eK))
         obtain ⟨eL, H⟩ := gE H
         obtain ⟨c1, H⟩ := gE H
         (try (have eM := c1; simp only [a, j, q] at eM))
         obtain ⟨eN, H⟩ := gE H
         obtain ⟨da, H⟩ := gE H
         (try (have eO := da; simp only [a, j, q] at eO))
         obtain ⟨ab, g2, H⟩ := bA H
         have cu := mA H
         clear H
         have hM := aw.out
         have hN := ax.out
         have hO := ae.out
         have hP := ay.out
         have dM : wr.cell? ⟨L, 0, none⟩ = some (.int .i64 s) := bc c 0
         have dN : wr.cell? ⟨L, 1, none⟩ = some (.slice ap D.length ag) := bc c 1
         have dO : wr.cell? ⟨L, 2, none⟩ = some (.slice ak P.length ah) := bc c 2
         have dP := Zae c.out 0
         have dQ := Zae c.out 1
         have dR := Zae c.out 2
         try go_wp2
         replace z := mA (zA z.out)
         replace x := mA (zA x.out)
         replace u := mA (zA u.out)
         replace J := mA (zA J.out)
         replace l := mA (zH l.out)
         replace c := mA (Zaa c.out)
         replace m := mA (Zaa m.out)
         replace d := mA (Zaa d.out)
         replace HB := mA (Za1 HB.out)
         obtain ⟨ie, ao, el⟩ := zP x.out
         (first | subst el | (injection el with fh g3 fi; have g4 := fh.symm; have g5 := fi.symm; clear fh g3 fi; subst g4; subst g5))
         have b8 : 0 ≤ (T : Int) := ofD
         have b9 : T < (A.length : Int) := ofD
         obtain ⟨ad, fY, bi⟩ := zO (zJ x.out).2.2 T b8 b9
         cases fY
         replace b8 := eq_true b8
         replace b9 := eq_true b9
         have ca : 0 ≤ ((rd A T) : Int) := ofD
         have cb : (rd A T) < (D.length : Int) := ofD
         obtain ⟨ar, em, ci, fZ, av, bF, bG⟩ := at_L3 bS.out (rd A T) ca cb
         have bH := av
         cases fZ
         replace av := (HB.out.cell (wB w av)).trans av
         have bI := mA bG
         have gO := mA bF
         clear bG bF
         replace ca := eq_true ca
         replace cb := eq_true cb
         have cc : 0 ≤ (ac : Int) := ofD
         have cd : ac < ((Zam D (rd A T)).length : Int) := ofD
         obtain ⟨db, f0, aC⟩ := zO bI.out ac cc cd
         have bJ := aC
         cases f0
         replace aC := (HB.out.cell (wB w aC)).trans aC
         replace cc := eq_true cc
         replace cd := eq_true cd
         refine Zck (n := 14) (S := fun w' => w'.cell? ⟨L, 0, none⟩ = some (.int .i64 s) ∧ w'.cell? ⟨L, 1, none⟩ = some (.slice (some ar) D.length ag) ∧ w'.cell? ⟨L, 2, none⟩ = some (.slice ak P.length ah) ∧ w'.cell? (ad.add (T).toNat) = some (.int .i64 (rd A T)) ∧ w'.cell? (ar.add ((rd A T)).toNat) = some (.slice (some db) (Zam D (rd A T)).length ci) ∧ w'.cell? (db.add (ac).toNat) = some (.int .i64 (rd (Zam D (rd A T)) ac))) (ds := []) #[false, false, false, false, false, false, false, false, false, false, false, false, false, false] (by kernel_rfl) rfl rfl ⟨bc c 0, bc c 1, bc c 2, bi, (cB HB bH :), (cB HB bJ :)⟩ (fun hHeld => ?_); refine Zb5 Zag.tab18 Zag.bits18 (fun HT_ HW_ => ?_)
         generalize wr.drew = w53 at z x u J l c m d HB bI bi av aC hHeld ⊢
         refine Zas (i := 0) (N := some 57) (Zap HT_.out (by kernel_rfl)) ?_
         refine Zas (i := 1) (N := some 58) (Zap HT_.out (by kernel_rfl)) ?_
         refine Zas (i := 3) (N := some 60) (Zap HT_.out (by kernel_rfl)) ?_
         refine Zas (i := 4) (N := some 61) (Zap HT_.out (by kernel_rfl)) ?_
         refine Zas (i := 5) (N := some 62) (Zap HT_.out (by kernel_rfl)) ?_
         refine Zas (i := 9) (N := some 66) (Zap HT_.out (by kernel_rfl)) ?_
         refine Zbg (i := 2) (N := some 59) (Za0 HT_.out HW_.out (by kernel_rfl)) hHeld ?_
         refine Zbg (i := 6) (N := some 63) (Za0 HT_.out HW_.out (by kernel_rfl)) hHeld ?_
         refine Zas (i := 7) (N := some 64) (Zap HT_.out (by kernel_rfl)) ?_
         refine Zbg (i := 8) (N := some 65) (Za0 HT_.out HW_.out (by kernel_rfl)) hHeld ?_
         refine Zas (i := 10) (N := some 67) (Zap HT_.out (by kernel_rfl)) ?_
         refine Zbg (i := 11) (N := some 68) (Za0 HT_.out HW_.out (by kernel_rfl)) hHeld ?_
         refine one_ (i := 12) (N := some 69) #[true, true, true, true, true, true, true, true, true, true, true, true, true, false] rfl rfl (Zbe HT_.out (by kernel_rfl)) (by decide) (fun K hK => ?_)
         refine goes_ Tryd.func114 (by kernel_rfl) rfl #[.slice (some y) r.length I, .int .i64 (rd (Zam D (rd A T)) ac)] (by rfl) rfl rfl (by (try simp only [List.map_toArray, List.map_cons, List.map_nil]); first | done | rfl | (simp only [List.length_drop, List.length_take]; rfl)) ?_
         with_reducible refine (Zba.calls _ _ r (rd (Zam D (rd A T)) ac) ab _ ?side1 ?side2 g2.out).mono ?_
         (case side1 => exact cP ((zJ z.out).2.2))
         (case side2 => exact (zJ z.out).2.1)
         rintro e w' ⟨rfl, ⟨nd, rfl⟩⟩
         refine ⟨_, rfl, ?_⟩
         refine hK.out _ _ ⟨bc c 0, bc c 1, bc c 2, hHeld.2.2.2.1, (cB HB bH :), (cB HB bJ :)⟩ (fun hHeld => ?_)
         clear hK K
         refine putS 69 ?_
         refine Zas (i := 13) (N := some 12) (Zap HT_.out (by kernel_rfl)) ?_
         refine done_ (Zcs HT_.out (by kernel_rfl)) ?_
         go_upto_region 19 with (fail)
         go_cut [77] (fun v77 wc => ∃ (kq : Nat) (a9 : Bool), v77 = .bool a9 ∧ Zac (Zag.j4 kq r A E T al ac ab a9 s D P s 0 0 W = some (r1, r2, r3, r4, r5)) ∧ Zac (kq ≤ k4) ∧ Zac (Kd.R (Kd.int .i64) 2 wc w.heap.size (fun k_ => some k_ ≠ ((.slice (some ad) A.length ao) : Value).ownBlock ∧ some k_ ≠ ((.slice ai E.length G) : Value).ownBlock ∧ some k_ ≠ (u10 : Value).ownBlock) (.slice (some y) r.length I) r) ∧ Zac (Kd.R (Kd.int .i64) 2 wc w.heap.size (fun k_ => some k_ ≠ ((.slice (some y) r.length I) : Value).ownBlock ∧ some k_ ≠ ((.slice ai E.length G) : Value).ownBlock ∧ some k_ ≠ (u10 : Value).ownBlock) (.slice (some ad) A.length ao) A) ∧ Zac (Kd.R (Kd.int .i64) 2 wc w.heap.size (fun k_ => some k_ ≠ ((.slice (some y) r.length I) : Value).ownBlock ∧ some k_ ≠ ((.slice (some ad) A.length ao) : Value).ownBlock ∧ some k_ ≠ (u10 : Value).ownBlock) (.slice ai E.length G) E) ∧ Zac (Kd.R (Kd.int .i64) 2 wc w.heap.size (fun k_ => some k_ ≠ ((.slice (some y) r.length I) : Value).ownBlock ∧ some k_ ≠ ((.slice (some ad) A.length ao) : Value).ownBlock ∧ some k_ ≠ ((.slice ai E.length G) : Value).ownBlock) u10 al) ∧ Zac (Kd.S (Kd.slice 2 (Kd.int .i64)) 22 wc w.heap.size (fun k_ => some k_ ≠ ((.slice (some y) r.length I) : Value).ownBlock ∧ some k_ ≠ ((.slice (some ad) A.length ao) : Value).ownBlock ∧ some k_ ≠ ((.slice ai E.length G) : Value).ownBlock ∧ some k_ ≠ (u10 : Value).ownBlock) O W) ∧ Zac (wc.heap[L]? = some (.cells #[.int .i64 s, (.slice (some ar) D.length ag), (.slice ak P.length ah)] 66 (0, 0))) ∧ Zac (wc.heap[U]? = some (.cells #[.int .i64 0, .int .i64 0, .int .i64 0, (.slice none 0 0)] 39 (0, 0))) ∧ Zac (wc.heap[B]? = some (.cells #[.int .i64 s, .int .i64 0, .int .i64 0, O] 39 (0, 0))) ∧ Zac (Below w.heap.size w wc))
         case first =>
          have H := cu.out
          clear cu
          by_cases dc : 0 < (r.length : Int); rotate_left
          ·rw [if_neg dc] at H
           exact absurd H (by simp)
          rw [if_pos dc] at H
          have ce := dT dc
          (try (have eP := ce; simp only [a, j, q] at eP))
          have eQ : decide (0 < r.length) = true := decide_eq_true (by omega)
          (try (have eR := eQ; simp only [a, j, q] at eR))
          clear dc
          (first | rw [ce] | (simp only [Zcq, i32_w]; rw [ce]) | skip)
          by_cases bK : (rd r 0) < 0
          ·rw [if_pos bK] at H
           have eS := dT bK
           clear bK
           have H' := mA H
           clear H
           have a1 : 0 ≤ (0 : Int) := (by omega)
           have a2 : 0 < (r.length : Int) := ofD
           obtain ⟨cf, cv, aN⟩ := zO (zJ z.out).2.2 0 a1 a2
           obtain rfl : y = cf := (by injection cv)
           have eT : (0 < r.length) = True := eq_true (by omega)
           (try rw [show ((0 : Int)).toNat = 0 from rfl] at aN)
           (try rw [Addr.add_zero'] at aN)
           replace a1 := eq_true a1
           replace a2 := eq_true a2
           go_wp2
           go_meet
           case rel => exact ⟨_, (true), (eW), H', ⟨by have := au.out; have := aq.out; have := aI.out; have := aG.out; first | omega | exact Nat.le_refl _⟩, ⟨by (try simp only [a]); (try simp only [j]); (try simp only [q]); exact rP z.out⟩, ⟨by (try simp only [a]); (try simp only [j]); (try simp only [q]); exact rP x.out⟩, ⟨by (try simp only [a]); (try simp only [j]); (try simp only [q]); exact rP u.out⟩, ⟨by (try simp only [a]); (try simp only [j]); (try simp only [q]); exact rP J.out⟩, ⟨by (try simp only [a]); (try simp only [j]); (try simp only [q]); exact sP l.out⟩, ⟨by (try simp only [a]); (try simp only [j]); (try simp only [q]); exact bP c.out⟩, ⟨by (try simp only [a]); (try simp only [j]); (try simp only [q]); exact bP m.out⟩, ⟨by (try simp only [a]); (try simp only [j]); (try simp only [q]); exact bP d.out⟩, ⟨bW⟩⟩
          rw [if_neg bK] at H
          have eS := dF bK
          clear bK
          have H' := mA H
          clear H
          have a1 : 0 ≤ (0 : Int) := (by omega)
          have a2 : 0 < (r.length : Int) := ofD
          obtain ⟨cf, cv, aN⟩ := zO (zJ z.out).2.2 0 a1 a2
          obtain rfl : y = cf := (by injection cv)
          have eT : (0 < r.length) = True := eq_true (by omega)
          (try rw [show ((0 : Int)).toNat = 0 from rfl] at aN)
          (try rw [Addr.add_zero'] at aN)
          replace a1 := eq_true a1
          replace a2 := eq_true a2
          go_wp2
          go_meet
          case rel => exact ⟨_, (decide (ab < 0)), (eW), H', ⟨by have := au.out; have := aq.out; have := aI.out; have := aG.out; first | omega | exact Nat.le_refl _⟩, ⟨by (try simp only [a]); (try simp only [j]); (try simp only [q]); exact rP z.out⟩, ⟨by (try simp only [a]); (try simp only [j]); (try simp only [q]); exact rP x.out⟩, ⟨by (try simp only [a]); (try simp only [j]); (try simp only [q]); exact rP u.out⟩, ⟨by (try simp only [a]); (try simp only [j]); (try simp only [q]); exact rP J.out⟩, ⟨by (try simp only [a]); (try simp only [j]); (try simp only [q]); exact sP l.out⟩, ⟨by (try simp only [a]); (try simp only [j]); (try simp only [q]); exact bP c.out⟩, ⟨by (try simp only [a]); (try simp only [j]); (try simp only [q]); exact bP m.out⟩, ⟨by (try simp only [a]); (try simp only [j]); (try simp only [q]); exact bP d.out⟩, ⟨bW⟩⟩
         case rest =>
          clear cu cW eJ c0 eL c1 eN da dM dN dO dP dQ dR bi av aC b8 ca cc b9 cb cd
          obtain ⟨kq, a9, rfl, HA, bj, z, x, u, J, l, c, m, d, HB⟩ := hcut
          cases kq with
          | zero => exact absurd HA.out (by simp [Zag.j4])
          | succ cw =>
           have H := HA.out
           clear HA
           simp only [Zag.j4] at H
           by_cases dd : a9 = true
           ·subst dd
            rw [if_pos rfl] at H
            by_cases de : al.length < 17592186044416; rotate_left
            ·rw [if_neg de] at H
             exact absurd H (by simp)
            rw [if_pos de] at H
            have eU := mA de
            clear de
            obtain ⟨f3, df⟩ := nm ((al ++ [(-1)]) : List Int)
            rw [← df.out] at H
            have H' := mA H
            clear H
            go_wp2_with (first | ((with_reducible refine Za6 (b := .append) (xs := #[.tmp 78, .tmp 79]) rfl ?_); at_builtin; refine yO (Kd.int .i64) (w0 := w) w.heap.size rfl (.tmp 78) (.tmp 79) 22 2 (.int .i64 0) 8 rfl Tryd.underlying22 Zci rfl (by decide) (by omega) u10 al (-1) [.int .i64 (-1)] (fun k_ => some k_ ≠ (.slice (some y) r.length I : Value).ownBlock ∧ some k_ ≠ (.slice (some ad) A.length ao : Value).ownBlock ∧ some k_ ≠ (.slice ai E.length G : Value).ownBlock) (fun _ => False) rfl rfl ?aP (fun _ hk => hk.elim) ?aF ?aO ?aB ?aS ?aL ?_; (case aP => exact rfl); (case aB => exact (bW)); (case aF => exact (fun k_ hk => ⟨zT (zI (rP z.out)) k_ hk, zT (zI (rP x.out)) k_ hk, zT (zI (rP u.out)) k_ hk⟩)); (case aO => exact (rP J.out)); (case aS => exact (Zaj (bW))); (case aL => have := eU.out; omega); intro ig iu ho hb hg hat; rw [← df.out] at ho; replace z := mA (zR (ok := (fun k_ => some k_ ≠ (.slice (some ad) A.length ao : Value).ownBlock ∧ some k_ ≠ (.slice ai E.length G : Value).ownBlock)) (by (with_reducible repeat (first | apply zC | apply zD | apply zA)); exact zB z.out (fun _ hk => ⟨⟨hk.1, hk.2.1⟩, hk.2.2⟩)) hg hat); replace x := mA (zR (ok := (fun k_ => some k_ ≠ (.slice (some y) r.length I : Value).ownBlock ∧ some k_ ≠ (.slice ai E.length G : Value).ownBlock)) (by (with_reducible repeat (first | apply zC | apply zD | apply zA)); exact zB x.out (fun _ hk => ⟨⟨hk.1, hk.2.1⟩, hk.2.2⟩)) hg hat); replace u := mA (zR (ok := (fun k_ => some k_ ≠ (.slice (some y) r.length I : Value).ownBlock ∧ some k_ ≠ (.slice (some ad) A.length ao : Value).ownBlock)) (by (with_reducible repeat (first | apply zC | apply zD | apply zA)); exact zB u.out (fun _ hk => ⟨⟨hk.1, hk.2.1⟩, hk.2.2⟩)) hg hat); replace l := mA (yJ (ok := (fun k_ => some k_ ≠ (.slice (some y) r.length I : Value).ownBlock ∧ some k_ ≠ (.slice (some ad) A.length ao : Value).ownBlock ∧ some k_ ≠ (.slice ai E.length G : Value).ownBlock)) (by (with_reducible repeat (first | apply zL | apply zM | apply zH)); exact zG l.out (fun _ hk => ⟨⟨hk.1, ⟨hk.2.1, hk.2.2.1⟩⟩, hk.2.2.2⟩)) hg hat); replace c := mA (Zah (g := L) (o := .cells #[.int .i64 s, .slice (some ar) D.length ag, .slice ak P.length ah] 66 (0, 0)) (bP c.out) hg (zN J.out c.out (by decide))); replace m := mA (Zah (g := U) (o := .cells #[.int .i64 0, .int .i64 0, .int .i64 0, .slice none 0 0] 39 (0, 0)) (bP m.out) hg (zN J.out m.out (by decide))); replace d := mA (Zah (g := B) (o := .cells #[.int .i64 s, .int .i64 0, .int .i64 0, O] 39 (0, 0)) (bP d.out) hg (zN J.out d.out (by decide))); replace HB := mA (hb); have eV := mA (ho); clear J ho hb hg hat))
            (try simp only [← q])
            go_roundg cw
            case measure => have := au.out; have := aq.out; have := aI.out; have := aG.out; have := bj.out; omega
            case rel => exact ⟨(A), (E), (f3), (wrap64 (ac + 1)), (eW), H', ⟨by have := au.out; have := aq.out; have := aI.out; have := aG.out; have := bj.out; omega⟩, ⟨by (try simp only [a]); (try simp only [j]); (try simp only [q]); (with_reducible repeat (first | apply zC | apply zD | apply zA)); exact zB z.out (fun _ hk => ⟨hk.1.1, ⟨hk.1.2, hk.2⟩⟩)⟩, ⟨by (try simp only [a]); (try simp only [j]); (try simp only [q]); (with_reducible repeat (first | apply zC | apply zD | apply zA)); exact zB x.out (fun _ hk => ⟨hk.1.1, ⟨hk.1.2, hk.2⟩⟩)⟩, ⟨by (try simp only [a]); (try simp only [j]); (try simp only [q]); (with_reducible repeat (first | apply zC | apply zD | apply zA)); exact zB u.out (fun _ hk => ⟨hk.1.1, ⟨hk.1.2, hk.2⟩⟩)⟩, ⟨by (try simp only [a]); (try simp only [j]); (try simp only [q]); exact rP eV.out⟩, ⟨by (try simp only [a]); (try simp only [j]); (try simp only [q]); (with_reducible repeat (first | apply zL | apply zM | apply zH)); exact zG l.out (fun _ hk => ⟨hk.1.1, ⟨hk.1.2.1, ⟨hk.1.2.2, hk.2⟩⟩⟩)⟩, ⟨by (try simp only [a]); (try simp only [j]); (try simp only [q]); exact bP c.out⟩, ⟨by (try simp only [a]); (try simp only [j]); (try simp only [q]); exact bP m.out⟩, ⟨by (try simp only [a]); (try simp only [j]); (try simp only [q]); exact bP d.out⟩, ⟨bW⟩⟩
           replace dd := Bool.eq_false_iff.mpr dd
           subst dd
           rw [iF] at H
           obtain ⟨hQ, H⟩ := gE H
           obtain ⟨eX, H⟩ := gE H
           (try (have eY := eX; simp only [a, j, q] at eY))
           by_cases bL : (rd E ab) < 0; rotate_left
           ·rw [if_neg bL] at H
            have eZ := dF bL
            clear bL
            by_cases dg : al.length < 17592186044416; rotate_left
            ·rw [if_neg dg] at H
             exact absurd H (by simp)
            rw [if_pos dg] at H
            have e0 := mA dg
            clear dg
            obtain ⟨f4, dh⟩ := nm ((al ++ [rd E ab]) : List Int)
            rw [← dh.out] at H
            have H' := mA H
            clear H
            have a3 : 0 ≤ (ab : Int) := ofD
            have a4 : ab < (E.length : Int) := ofD
            obtain ⟨aT, cx, bM⟩ := zO (zJ u.out).2.2 ab a3 a4
            cases cx
            replace a3 := eq_true a3
            replace a4 := eq_true a4
            have cy : 0 ≤ (ab : Int) := ofD
            have cz : ab < (E.length : Int) := ofD
            obtain ⟨e1, f5, gP⟩ := zO (zJ u.out).2.2 ab cy cz
            obtain rfl : aT = e1 := (by injection f5)
            replace cy := eq_true cy
            replace cz := eq_true cz
            go_wp2_with (first | ((with_reducible refine Za6 (b := .append) (xs := #[.tmp 105, .tmp 110]) rfl ?_); at_builtin; refine yO (Kd.int .i64) (w0 := w) w.heap.size rfl (.tmp 105) (.tmp 110) 22 2 (.int .i64 0) 8 rfl Tryd.underlying22 Zci rfl (by decide) (by omega) u10 al (rd E ab) [.int .i64 (rd E ab)] (fun k_ => some k_ ≠ (.slice (some y) r.length I : Value).ownBlock ∧ some k_ ≠ (.slice (some ad) A.length ao : Value).ownBlock ∧ some k_ ≠ (.slice (some aT) E.length G : Value).ownBlock) (fun _ => False) rfl rfl ?aP (fun _ hk => hk.elim) ?aF ?aO ?aB ?aS ?aL ?_; (case aP => exact rfl); (case aB => exact (bW)); (case aF => exact (fun k_ hk => ⟨zT (zI (rP z.out)) k_ hk, zT (zI (rP x.out)) k_ hk, zT (zI (rP u.out)) k_ hk⟩)); (case aO => exact (rP J.out)); (case aS => exact (Zaj (bW))); (case aL => have := e0.out; omega); intro ih iv ho hb hg hat; rw [← dh.out] at ho; replace z := mA (zR (ok := (fun k_ => some k_ ≠ (.slice (some ad) A.length ao : Value).ownBlock ∧ some k_ ≠ (.slice (some aT) E.length G : Value).ownBlock)) (by (with_reducible repeat (first | apply zC | apply zD | apply zA)); exact zB z.out (fun _ hk => ⟨⟨hk.1, hk.2.1⟩, hk.2.2⟩)) hg hat); replace x := mA (zR (ok := (fun k_ => some k_ ≠ (.slice (some y) r.length I : Value).ownBlock ∧ some k_ ≠ (.slice (some aT) E.length G : Value).ownBlock)) (by (with_reducible repeat (first | apply zC | apply zD | apply zA)); exact zB x.out (fun _ hk => ⟨⟨hk.1, hk.2.1⟩, hk.2.2⟩)) hg hat); replace u := mA (zR (ok := (fun k_ => some k_ ≠ (.slice (some y) r.length I : Value).ownBlock ∧ some k_ ≠ (.slice (some ad) A.length ao : Value).ownBlock)) (by (with_reducible repeat (first | apply zC | apply zD | apply zA)); exact zB u.out (fun _ hk => ⟨⟨hk.1, hk.2.1⟩, hk.2.2⟩)) hg hat); replace l := mA (yJ (ok := (fun k_ => some k_ ≠ (.slice (some y) r.length I : Value).ownBlock ∧ some k_ ≠ (.slice (some ad) A.length ao : Value).ownBlock ∧ some k_ ≠ (.slice (some aT) E.length G : Value).ownBlock)) (by (with_reducible repeat (first | apply zL | apply zM | apply zH)); exact zG l.out (fun _ hk => ⟨⟨hk.1, ⟨hk.2.1, hk.2.2.1⟩⟩, hk.2.2.2⟩)) hg hat); replace c := mA (Zah (g := L) (o := .cells #[.int .i64 s, .slice (some ar) D.length ag, .slice ak P.length ah] 66 (0, 0)) (bP c.out) hg (zN J.out c.out (by decide))); replace m := mA (Zah (g := U) (o := .cells #[.int .i64 0, .int .i64 0, .int .i64 0, .slice none 0 0] 39 (0, 0)) (bP m.out) hg (zN J.out m.out (by decide))); replace d := mA (Zah (g := B) (o := .cells #[.int .i64 s, .int .i64 0, .int .i64 0, O] 39 (0, 0)) (bP d.out) hg (zN J.out d.out (by decide))); replace HB := mA (hb); have e2 := mA (ho); clear J ho hb hg hat))
            (try simp only [← q])
            go_roundg cw
            case measure => have := au.out; have := aq.out; have := aI.out; have := aG.out; have := bj.out; omega
            case rel => exact ⟨(A), (E), (f4), (wrap64 (ac + 1)), (eW), H', ⟨by have := au.out; have := aq.out; have := aI.out; have := aG.out; have := bj.out; omega⟩, ⟨by (try simp only [a]); (try simp only [j]); (try simp only [q]); (with_reducible repeat (first | apply zC | apply zD | apply zA)); exact zB z.out (fun _ hk => ⟨hk.1.1, ⟨hk.1.2, hk.2⟩⟩)⟩, ⟨by (try simp only [a]); (try simp only [j]); (try simp only [q]); (with_reducible repeat (first | apply zC | apply zD | apply zA)); exact zB x.out (fun _ hk => ⟨hk.1.1, ⟨hk.1.2, hk.2⟩⟩)⟩, ⟨by (try simp only [a]); (try simp only [j]); (try simp only [q]); (with_reducible repeat (first | apply zC | apply zD | apply zA)); exact zB u.out (fun _ hk => ⟨hk.1.1, ⟨hk.1.2, hk.2⟩⟩)⟩, ⟨by (try simp only [a]); (try simp only [j]); (try simp only [q]); exact rP e2.out⟩, ⟨by (try simp only [a]); (try simp only [j]); (try simp only [q]); (with_reducible repeat (first | apply zL | apply zM | apply zH)); exact zG l.out (fun _ hk => ⟨hk.1.1, ⟨hk.1.2.1, ⟨hk.1.2.2, hk.2⟩⟩⟩)⟩, ⟨by (try simp only [a]); (try simp only [j]); (try simp only [q]); exact bP c.out⟩, ⟨by (try simp only [a]); (try simp only [j]); (try simp only [q]); exact bP m.out⟩, ⟨by (try simp only [a]); (try simp only [j]); (try simp only [q]); exact bP d.out⟩, ⟨bW⟩⟩
           rw [if_pos bL] at H
           have eZ := dT bL
           clear bL
           obtain ⟨bk, cg⟩ : ∃ y_ : List Int, y_ = (E.set (ab : Int).toNat (A.length : Int)) := ⟨_, rfl⟩
           replace H := bsm cg H
           have di := mA cg
           clear cg
           obtain ⟨hR, H⟩ := gE H
           obtain ⟨e3, H⟩ := gE H
           (try (have e4 := e3; simp only [a, j, q] at e4))
           obtain ⟨hS, H⟩ := gE H
           obtain ⟨e5, H⟩ := gE H
           (try (have e6 := e5; simp only [a, j, q] at e6))
           obtain ⟨hT, H⟩ := gE H
           obtain ⟨e7, H⟩ := gE H
           (try (have e8 := e7; simp only [a, j, q] at e8))
           by_cases dj : A.length < 17592186044416; rotate_left
           ·rw [if_neg dj] at H
            exact absurd H (by simp)
           rw [if_pos dj] at H
           have e9 := mA dj
           clear dj
           obtain ⟨f6, dk⟩ := nm ((A ++ [rd (Zam D (rd A T)) ac]) : List Int)
           rw [← dk.out] at H
           by_cases dl : al.length < 17592186044416; rotate_left
           ·rw [if_neg dl] at H
            exact absurd H (by simp)
           rw [if_pos dl] at H
           have fa := mA dl
           clear dl
           obtain ⟨f7, dm⟩ := nm ((al ++ [rd bk ab]) : List Int)
           rw [← dm.out] at H
           have H' := mA H
           clear H
           have a3 : 0 ≤ (ab : Int) := ofD
           have a4 : ab < (E.length : Int) := ofD
           obtain ⟨aT, cx, bM⟩ := zO (zJ u.out).2.2 ab a3 a4
           cases cx
           replace a3 := eq_true a3
           replace a4 := eq_true a4
           have en : 0 ≤ (ab : Int) := ofD
           have eo : (ab : Int) < ((E.length : Int) : Int) := ofD
           obtain ⟨an, ii, ep, er, f8, ij, es⟩ := yK u.out (by omega)
           (first | cases ep | (injection ep with ea_ en_ ec_; (first | subst ea_ | (injection ea_ with ea_; subst ea_)); subst ec_; clear en_))
           have f9 := mA er
           have ik := mA es
           clear er f8 es
           (first | simp only [Zcm] at bM | skip)
           obtain ⟨g6, g7⟩ := yF 0 u.out (ab : Int) en eo
           replace en := eq_true en
           replace eo := eq_true eo
           have cA := yI u.out (ab : Int) (A.length : Int)
           try go_wp2_with (first | ((with_reducible refine Zbq (t := 2) (p := 90) rfl ?_); refine Zdg (t := 2) (p := 90) (w1 := (wc.setCell ⟨an, (ab : Int).toNat, none⟩ (.int .i64 (A.length : Int)))) ?_; intro dn hw; have hg : wc.grownBy dn (some an) := (by rw [hw]; exact cA.2); have hp_ : Kd.R (Kd.int .i64) 2 dn w.heap.size (fun k_ => some k_ ≠ (.slice (some y) r.length I : Value).ownBlock ∧ some k_ ≠ (.slice (some ad) A.length ao : Value).ownBlock ∧ some k_ ≠ (u10 : Value).ownBlock) (.slice (some ⟨an, 0, none⟩) E.length G) bk := (by rw [hw, di.out]; exact cA.1); clear cA; replace z := mA (zR (v := (.slice (some ⟨an, 0, none⟩) E.length G)) (v1 := (.slice (some ⟨an, 0, none⟩) E.length G)) (ok := (fun k_ => some k_ ≠ (.slice (some ad) A.length ao : Value).ownBlock ∧ some k_ ≠ (u10 : Value).ownBlock)) (by (with_reducible repeat (first | apply zC | apply zD | apply zA)); exact zB z.out (fun _ hk => ⟨⟨hk.1, hk.2.2⟩, hk.2.1⟩)) hg (.inl rfl)); replace x := mA (zR (v := (.slice (some ⟨an, 0, none⟩) E.length G)) (v1 := (.slice (some ⟨an, 0, none⟩) E.length G)) (ok := (fun k_ => some k_ ≠ (.slice (some y) r.length I : Value).ownBlock ∧ some k_ ≠ (u10 : Value).ownBlock)) (by (with_reducible repeat (first | apply zC | apply zD | apply zA)); exact zB x.out (fun _ hk => ⟨⟨hk.1, hk.2.2⟩, hk.2.1⟩)) hg (.inl rfl)); replace J := mA (zR (v := (.slice (some ⟨an, 0, none⟩) E.length G)) (v1 := (.slice (some ⟨an, 0, none⟩) E.length G)) (ok := (fun k_ => some k_ ≠ (.slice (some y) r.length I : Value).ownBlock ∧ some k_ ≠ (.slice (some ad) A.length ao : Value).ownBlock)) (by (with_reducible repeat (first | apply zC | apply zD | apply zA)); exact zB J.out (fun _ hk => ⟨⟨hk.1, hk.2.1⟩, hk.2.2⟩)) hg (.inl rfl)); replace l := mA (yJ (v := (.slice (some ⟨an, 0, none⟩) E.length G)) (v1 := (.slice (some ⟨an, 0, none⟩) E.length G)) (ok := (fun k_ => some k_ ≠ (.slice (some y) r.length I : Value).ownBlock ∧ some k_ ≠ (.slice (some ad) A.length ao : Value).ownBlock ∧ some k_ ≠ (u10 : Value).ownBlock)) (by (with_reducible repeat (first | apply zL | apply zM | apply zH)); exact zG l.out (fun _ hk => ⟨⟨hk.1, ⟨hk.2.1, hk.2.2.2⟩⟩, hk.2.2.1⟩)) hg (.inl rfl)); replace c := mA (Zah (g := L) (o := .cells #[.int .i64 s, .slice (some ar) D.length ag, .slice ak P.length ah] 66 (0, 0)) (bP c.out) hg (zN u.out c.out (by decide))); replace m := mA (Zah (g := U) (o := .cells #[.int .i64 0, .int .i64 0, .int .i64 0, .slice none 0 0] 39 (0, 0)) (bP m.out) hg (zN u.out m.out (by decide))); replace d := mA (Zah (g := B) (o := .cells #[.int .i64 s, .int .i64 0, .int .i64 0, O] 39 (0, 0)) (bP d.out) hg (zN u.out d.out (by decide))); replace u := mA (hp_); replace HB := mA ((by rw [hw]; exact Za9 (HB.out) f9.out : Below w.heap.size w dn)); clear hg hw hp_))
           replace z := mA (zA z.out)
           replace x := mA (zA x.out)
           replace u := mA (zA u.out)
           replace J := mA (zA J.out)
           replace l := mA (zH l.out)
           replace c := mA (Zaa c.out)
           replace m := mA (Zaa m.out)
           replace d := mA (Zaa d.out)
           replace HB := mA (Za1 HB.out)
           have cC : 0 ≤ (T : Int) := ofD
           have cD : T < (A.length : Int) := ofD
           obtain ⟨fb, ga, bN⟩ := zO (zJ x.out).2.2 T cC cD
           obtain rfl : ad = fb := (by injection ga)
           replace cC := eq_true cC
           replace cD := eq_true cD
           have cE : 0 ≤ ((rd A T) : Int) := ofD
           have cF : (rd A T) < (D.length : Int) := ofD
           obtain ⟨fc, et, cj, gb, aD, bO, bQ⟩ := at_L3 bS.out (rd A T) cE cF
           have dS := aD
           obtain rfl : ar = fc := (by injection gb)
           (try (have g8 : et = em ∧ cj = ci := (by have e_ := aD.symm.trans av; simpa using e_)))
           replace aD := (HB.out.cell (wB w aD)).trans aD
           have bR := mA bQ
           have gQ := mA bO
           clear bQ bO
           replace cE := eq_true cE
           replace cF := eq_true cF
           have cG : 0 ≤ (ac : Int) := ofD
           have cH : ac < ((Zam D (rd A T)).length : Int) := ofD
           obtain ⟨dp, gc, aQ⟩ := zO bR.out ac cG cH
           have dU := aQ
           cases gc
           replace aQ := (HB.out.cell (wB w aQ)).trans aQ
           replace cG := eq_true cG
           replace cH := eq_true cH
           refine Zck (n := 15) (S := fun w' => w'.cell? ⟨L, 0, none⟩ = some (.int .i64 s) ∧ w'.cell? ⟨L, 1, none⟩ = some (.slice (some ar) D.length ag) ∧ w'.cell? ⟨L, 2, none⟩ = some (.slice ak P.length ah) ∧ w'.cell? (ad.add (T).toNat) = some (.int .i64 (rd A T)) ∧ w'.cell? (ar.add ((rd A T)).toNat) = some (.slice (some dp) (Zam D (rd A T)).length cj) ∧ w'.cell? (dp.add (ac).toNat) = some (.int .i64 (rd (Zam D (rd A T)) ac))) (ds := [12, 13]) #[false, false, false, false, false, false, false, false, false, false, false, false, false, false, false] (by kernel_rfl) rfl rfl ⟨bc c 0, bc c 1, bc c 2, bN, (cB HB dS :), (cB HB dU :)⟩ (fun hHeld => ?_); refine Zb5 Zag.tab23 Zag.bits23 (fun HT_ HW_ => ?_)
           generalize dn.drew = w74 at z x u J l c m d HB bR bN aD aQ hHeld ⊢
           refine Zas (i := 0) (N := some 91) (Zap HT_.out (by kernel_rfl)) ?_
           refine Zas (i := 1) (N := some 92) (Zap HT_.out (by kernel_rfl)) ?_
           refine Zas (i := 3) (N := some 94) (Zap HT_.out (by kernel_rfl)) ?_
           refine Zas (i := 4) (N := some 95) (Zap HT_.out (by kernel_rfl)) ?_
           refine Zas (i := 5) (N := some 96) (Zap HT_.out (by kernel_rfl)) ?_
           refine Zas (i := 9) (N := some 100) (Zap HT_.out (by kernel_rfl)) ?_
           refine Zbg (i := 2) (N := some 93) (Za0 HT_.out HW_.out (by kernel_rfl)) hHeld ?_
           refine Zbg (i := 6) (N := some 97) (Za0 HT_.out HW_.out (by kernel_rfl)) hHeld ?_
           refine Zas (i := 7) (N := some 98) (Zap HT_.out (by kernel_rfl)) ?_
           refine Zbg (i := 8) (N := some 99) (Za0 HT_.out HW_.out (by kernel_rfl)) hHeld ?_
           refine Zas (i := 10) (N := some 101) (Zap HT_.out (by kernel_rfl)) ?_
           refine Zbg (i := 11) (N := some 102) (Za0 HT_.out HW_.out (by kernel_rfl)) hHeld ?_
           refine last_ (i := 12) (N := some 103) #[true, true, true, true, true, true, true, true, true, true, true, true, true, false, false] rfl rfl (Zbe HT_.out (by kernel_rfl)) (by decide) (fun K hK => ?_)
           refine value_ (w1 := ?_) (v := ?_) (by rfl) rfl ?_ ?_
           rotate_left 2
           ·go_simp
            constructor
            ·rfl
            ·rfl
           refine hK.out _ _ ?_
           clear hK K
           refine putS 103 ?_
           refine last_ (i := 13) (N := some 104) #[true, true, true, true, true, true, true, true, true, true, true, true, true, true, false] rfl rfl (Zbe HT_.out (by kernel_rfl)) (by decide) (fun K hK => ?_)
           refine xG (Kd.int .i64) (w0 := w) w.heap.size (by rfl) (.tmp 91) (.tmp 103) 22 2 (.int .i64 0) 8 rfl Tryd.underlying22 Zci rfl (by decide) (by omega) (.slice (some ad) A.length ao) A (rd (Zam D (rd A T)) ac) [.int .i64 (rd (Zam D (rd A T)) ac)] (fun k_ => some k_ ≠ (.slice (some y) r.length I : Value).ownBlock ∧ some k_ ≠ (.slice (some ⟨an, 0, none⟩) E.length G : Value).ownBlock ∧ some k_ ≠ (u10 : Value).ownBlock) (fun _ => False) rfl rfl ?aP (fun _ hk => hk.elim) ?aF ?aO ?aB ?aS ?aL ?_
           (case aP => exact rfl)
           (case aB => exact (bW))
           (case aF => exact (fun k_ hk => ⟨zT (zI (rP z.out)) k_ hk, zT (zI (rP u.out)) k_ hk, zT (zI (rP J.out)) k_ hk⟩))
           (case aO => exact (by (with_reducible repeat (first | apply zC | apply zD | apply zA)); exact zB x.out (fun _ hk => ⟨hk.1.1, ⟨hk.2, hk.1.2⟩⟩)))
           (case aS => exact (Zaj (bW)))
           (case aL => have := e9.out; omega)
           intro ch iw ho hb hg hat
           rw [← dk.out] at ho
           replace z := mA (zR (ok := (fun k_ => some k_ ≠ (.slice (some ⟨an, 0, none⟩) E.length G : Value).ownBlock ∧ some k_ ≠ (u10 : Value).ownBlock)) (by (with_reducible repeat (first | apply zC | apply zD | apply zA)); exact zB z.out (fun _ hk => ⟨⟨hk.2, hk.1.2⟩, hk.1.1⟩)) hg hat)
           replace u := mA (zR (ok := (fun k_ => some k_ ≠ (.slice (some y) r.length I : Value).ownBlock ∧ some k_ ≠ (u10 : Value).ownBlock)) (by (with_reducible repeat (first | apply zC | apply zD | apply zA)); exact zB u.out (fun _ hk => ⟨⟨hk.1, hk.2.2⟩, hk.2.1⟩)) hg hat)
           replace J := mA (zR (ok := (fun k_ => some k_ ≠ (.slice (some y) r.length I : Value).ownBlock ∧ some k_ ≠ (.slice (some ⟨an, 0, none⟩) E.length G : Value).ownBlock)) (by (with_reducible repeat (first | apply zC | apply zD | apply zA)); exact zB J.out (fun _ hk => ⟨⟨hk.1.1, hk.2⟩, hk.1.2⟩)) hg hat)
           replace l := mA (yJ (ok := (fun k_ => some k_ ≠ (.slice (some y) r.length I : Value).ownBlock ∧ some k_ ≠ (.slice (some ⟨an, 0, none⟩) E.length G : Value).ownBlock ∧ some k_ ≠ (u10 : Value).ownBlock)) (by (with_reducible repeat (first | apply zL | apply zM | apply zH)); exact zG l.out (fun _ hk => ⟨⟨hk.1.1, ⟨hk.2, hk.1.2.2⟩⟩, hk.1.2.1⟩)) hg hat)
           replace c := mA (Zah (g := L) (o := .cells #[.int .i64 s, .slice (some ar) D.length ag, .slice ak P.length ah] 66 (0, 0)) (bP c.out) hg (zN x.out c.out (by decide)))
           replace m := mA (Zah (g := U) (o := .cells #[.int .i64 0, .int .i64 0, .int .i64 0, .slice none 0 0] 39 (0, 0)) (bP m.out) hg (zN x.out m.out (by decide)))
           replace d := mA (Zah (g := B) (o := .cells #[.int .i64 s, .int .i64 0, .int .i64 0, O] 39 (0, 0)) (bP d.out) hg (zN x.out d.out (by decide)))
           replace HB := mA (hb)
           have bp := mA (ho)
           clear x ho hb hg hat
           refine hK.out _ _ ?_
           clear hK K
           refine putS 104 ?_
           refine Zas (i := 14) (N := some 6) (Zap HT_.out (by kernel_rfl)) ?_
           refine done_ (Zcs HT_.out (by kernel_rfl)) ?_
           have cI : 0 ≤ (ab : Int) := ofD
           have cJ : ab < (bk.length : Int) := (by have h_ : (ab : Int) < ((E.length : Int) : Int) := ofD; first | (have e_ := (zJ u.out).1; omega) | simpa only [di.out, List.length_set] using h_)
           have hU : ((ab : Int) < ((E.length : Int) : Int)) = True := eq_true (ofD)
           obtain ⟨fd, gf, bl⟩ := zO (zJ u.out).2.2 ab cI cJ
           obtain rfl : (⟨an, 0, none⟩ : Addr) = fd := (by injection gf)
           (first | simp only [Zcm] at bl | simp only [add_at] at bl | simp only [Addr.add, Nat.zero_add] at bl | skip)
           replace cI := eq_true cI
           replace cJ := eq_true cJ
           try go_wp2_with (first | ((with_reducible refine Za6 (b := .append) (xs := #[.tmp 105, .tmp 110]) rfl ?_); at_builtin; refine yO (Kd.int .i64) (w0 := w) w.heap.size rfl (.tmp 105) (.tmp 110) 22 2 (.int .i64 0) 8 rfl Tryd.underlying22 Zci rfl (by decide) (by omega) u10 al (rd bk ab) [.int .i64 (rd bk ab)] (fun k_ => some k_ ≠ (.slice (some y) r.length I : Value).ownBlock ∧ some k_ ≠ (.slice (some ⟨an, 0, none⟩) E.length G : Value).ownBlock ∧ some k_ ≠ (ch : Value).ownBlock) (fun _ => False) rfl rfl ?aP (fun _ hk => hk.elim) ?aF ?aO ?aB ?aS ?aL ?_; (case aP => exact rfl); (case aB => exact (bW)); (case aF => exact (fun k_ hk => ⟨zT (zI (rP z.out)) k_ hk, zT (zI (rP u.out)) k_ hk, zT (zI (rP bp.out)) k_ hk⟩)); (case aO => exact (by (with_reducible repeat (first | apply zC | apply zD | apply zA)); exact zB J.out (fun _ hk => ⟨hk.1.1, ⟨hk.1.2, hk.2⟩⟩))); (case aS => exact (Zaj (bW))); (case aL => have := fa.out; omega); intro il ix ho hb hg hat; rw [← dm.out] at ho; replace z := mA (zR (ok := (fun k_ => some k_ ≠ (.slice (some ⟨an, 0, none⟩) E.length G : Value).ownBlock ∧ some k_ ≠ (ch : Value).ownBlock)) (by (with_reducible repeat (first | apply zC | apply zD | apply zA)); exact zB z.out (fun _ hk => ⟨⟨hk.1.1, hk.2⟩, hk.1.2⟩)) hg hat); replace u := mA (zR (ok := (fun k_ => some k_ ≠ (.slice (some y) r.length I : Value).ownBlock ∧ some k_ ≠ (ch : Value).ownBlock)) (by (with_reducible repeat (first | apply zC | apply zD | apply zA)); exact zB u.out (fun _ hk => ⟨⟨hk.1.1, hk.2⟩, hk.1.2⟩)) hg hat); replace l := mA (yJ (ok := (fun k_ => some k_ ≠ (.slice (some y) r.length I : Value).ownBlock ∧ some k_ ≠ (.slice (some ⟨an, 0, none⟩) E.length G : Value).ownBlock ∧ some k_ ≠ (ch : Value).ownBlock)) (by (with_reducible repeat (first | apply zL | apply zM | apply zH)); exact zG l.out (fun _ hk => ⟨⟨hk.1.1, ⟨hk.1.2.1, hk.2⟩⟩, hk.1.2.2⟩)) hg hat); replace c := mA (Zah (g := L) (o := .cells #[.int .i64 s, .slice (some ar) D.length ag, .slice ak P.length ah] 66 (0, 0)) (bP c.out) hg (zN J.out c.out (by decide))); replace m := mA (Zah (g := U) (o := .cells #[.int .i64 0, .int .i64 0, .int .i64 0, .slice none 0 0] 39 (0, 0)) (bP m.out) hg (zN J.out m.out (by decide))); replace d := mA (Zah (g := B) (o := .cells #[.int .i64 s, .int .i64 0, .int .i64 0, O] 39 (0, 0)) (bP d.out) hg (zN J.out d.out (by decide))); replace bp := mA (zR (ok := (fun k_ => some k_ ≠ (.slice (some y) r.length I : Value).ownBlock ∧ some k_ ≠ (.slice (some ⟨an, 0, none⟩) E.length G : Value).ownBlock)) (by (with_reducible repeat (first | apply zC | apply zD | apply zA)); exact zB bp.out (fun _ hk => ⟨⟨hk.1, hk.2.1⟩, hk.2.2⟩)) hg hat); replace HB := mA (hb); have fe := mA (ho); clear J ho hb hg hat))
           (try simp only [← q])
           go_roundg cw
           case measure => have := au.out; have := aq.out; have := aI.out; have := aG.out; have := bj.out; omega
           case rel => exact ⟨(f6), (bk), (f7), (wrap64 (ac + 1)), (eW), H', ⟨by have := au.out; have := aq.out; have := aI.out; have := aG.out; have := bj.out; omega⟩, ⟨by (try simp only [a]); (try simp only [j]); (try simp only [q]); (with_reducible repeat (first | apply zC | apply zD | apply zA)); exact zB z.out (fun _ hk => ⟨hk.1.2, ⟨hk.1.1, hk.2⟩⟩)⟩, ⟨by (try simp only [a]); (try simp only [j]); (try simp only [q]); (with_reducible repeat (first | apply zC | apply zD | apply zA)); exact zB bp.out (fun _ hk => ⟨hk.1.1, ⟨hk.1.2, hk.2⟩⟩)⟩, ⟨by (try simp only [a]); (try simp only [j]); (try simp only [q]); (with_reducible repeat (first | apply zC | apply zD | apply zA)); exact zB u.out (fun _ hk => ⟨hk.1.1, ⟨hk.1.2, hk.2⟩⟩)⟩, ⟨by (try simp only [a]); (try simp only [j]); (try simp only [q]); (with_reducible repeat (first | apply zC | apply zD | apply zA)); exact zB fe.out (fun _ hk => ⟨hk.1, ⟨hk.2.2, hk.2.1⟩⟩)⟩, ⟨by (try simp only [a]); (try simp only [j]); (try simp only [q]); (with_reducible repeat (first | apply zL | apply zM | apply zH)); exact zG l.out (fun _ hk => ⟨hk.1.1, ⟨hk.1.2.2, ⟨hk.1.2.1, hk.2⟩⟩⟩)⟩, ⟨by (try simp only [a]); (try simp only [j]); (try simp only [q]); exact bP c.out⟩, ⟨by (try simp only [a]); (try simp only [j]); (try simp only [q]); exact bP m.out⟩, ⟨by (try simp only [a]); (try simp only [j]); (try simp only [q]); exact bP d.out⟩, ⟨bW⟩⟩
end Go.Proofs.YtjdkedmdeajmgaaDoor.P
end M0
