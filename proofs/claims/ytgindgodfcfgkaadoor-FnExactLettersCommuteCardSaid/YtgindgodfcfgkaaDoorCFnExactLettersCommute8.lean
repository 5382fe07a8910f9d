import Derived.Test.YtgindgodfcfgkaaDoorCFnExactLettersCommute7
set_option maxHeartbeats 8000000
set_option maxRecDepth 100000
section M0
namespace Go.Proofs.YtgindgodfcfgkaaDoor.P
open Go.RowKit Go.Proofs.YtgindgodfcfgkaaDoor.Sh Go.Proofs.YtgindgodfcfgkaaDoorW.PrintWords Go.Proofs.YtgindgodfcfgkaaDoorW.PrintLast Go.Proofs.YtgindgodfcfgkaaDoorW.PrintMore
open Kd
attribute [local go_sem] Zcd Zca Zcn Zcm Zb1 Zb2 Zcc Zce   -- for this text's walks alone
set_option linter.unusedVariables false
set_option linter.unusedSimpArgs false
def Zdh.f (b : Int) (a : Int) (c : Int) (d : List (List Int)) (a1 : Int) : Option (Int) := if a1 = 0 then (some a) else (if a1 = a then (some 0) else (some a1))
theorem Zdh.calls (d : Int) (b : Int) (g : Int) (i : Option Addr) (j : Nat) (c : List (List Int)) (a1 : Int) (r : Int) (w : World) (k : Kd.C (Kd.slice 2 (Kd.int .i64)) w i c.length c) (l : c.length ≤ j) (h : Zdh.f d b g c a1 = some r) :
  Calls Tryd.prog 71 #[.agg #[.int .i64 d, .int .i64 b, .int .i64 g, .slice i c.length j], .int .i64 a1] w fun e w' => e = .returned (.int .i64 r) ∧ Below w.heap.size w w' := by
 have af := Tryd.underlying34
 have ad := mA k
 have ae := mA l
 clear k l
 have HB := mA (Below.refl w.heap.size w)
 unfold Zdh.f at h
 have H := h
 clear h
 by_cases c3 : a1 = 0
 ·rw [if_pos c3] at H
  have p : (a1 == 0) = true := beq_iff_eq.mpr c3
  have q : (a1 != 0) = false := bne_eq_false_iff_eq.mpr c3
  clear c3
  obtain rfl := oI H
  go_enter Tryd.func71, Tryd.ntmps71
  go_wp2_with (first | ((with_reducible refine Zap (N := 2) rfl ?_); refine boxS (N := 2) (cs := #[.int .i64 d, .int .i64 b, .int .i64 g, .slice i c.length j]) (t := 34) ?_; intro m hg w4 hbox hb; have a := mA (hbox); have n := geW (w := w) hg; have o := geW (w := w) hg; replace HB := mA (Zac (bW) hb); clear hb hbox hg; obtain ⟨G, I, J, K⟩ := Zbi a.out; obtain ⟨L, M, O, P⟩ := frz4 a.out))
  go_ret
  exact ⟨eW, bW⟩
 rw [if_neg c3] at H
 have p : (a1 == 0) = false := beq_eq_false_iff_ne.mpr c3
 have q : (a1 != 0) = true := bne_iff_ne.mpr c3
 by_cases c6 : a1 = b; rotate_left
 ·rw [if_neg c6] at H
  have s : (a1 == b) = false := beq_eq_false_iff_ne.mpr c6
  have u : (a1 != b) = true := bne_iff_ne.mpr c6
  obtain rfl := oI H
  go_enter Tryd.func71, Tryd.ntmps71
  go_wp2_with (first | ((with_reducible refine Zap (N := 2) rfl ?_); refine boxS (N := 2) (cs := #[.int .i64 d, .int .i64 b, .int .i64 g, .slice i c.length j]) (t := 34) ?_; intro m hg w9 hbox hb; have a := mA (hbox); have n := geW (w := w) hg; have o := geW (w := w) hg; replace HB := mA (Zac (bW) hb); clear hb hbox hg; obtain ⟨v, x, y, z⟩ := Zbi a.out; obtain ⟨A, B, D, E⟩ := frz4 a.out))
  go_ret
  exact ⟨eW, bW⟩
 rw [if_pos c6] at H
 have s : (a1 == b) = true := beq_iff_eq.mpr c6
 have u : (a1 != b) = false := bne_eq_false_iff_eq.mpr c6
 clear c6
 obtain rfl := oI H
 go_enter Tryd.func71, Tryd.ntmps71
 go_wp2_with (first | ((with_reducible refine Zap (N := 2) rfl ?_); refine boxS (N := 2) (cs := #[.int .i64 d, .int .i64 b, .int .i64 g, .slice i c.length j]) (t := 34) ?_; intro m hg w7 hbox hb; have a := mA (hbox); have n := geW (w := w) hg; have o := geW (w := w) hg; replace HB := mA (Zac (bW) hb); clear hb hbox hg; obtain ⟨T, U, W, X⟩ := Zbi a.out; obtain ⟨Y, aa, ab, ac⟩ := frz4 a.out))
 go_ret
 exact ⟨eW, bW⟩
mutual
def Za2.l0 : Nat → Int → Int → Int → Int → List (List Int) → Int → List (List Int) → List Bool → Option (Int × (List (List Int)) × List Bool)
 | 0, _, _, _, _, _, _, _, _ => none
 | k + 1, x4, a, b, c, d, e, g, h => (Zbr.f a b c d).bind fun i => (if x4 < i then ((Zdh.f a b c d x4).bind fun j => (Za2.l1 k x4 j (([] : List Int)) 0 a b c d e g h)) else (some (e, g, h)))
def Za2.l1 : Nat → Int → Int → List Int → Int → Int → Int → Int → List (List Int) → Int → List (List Int) → List Bool → Option (Int × (List (List Int)) × List Bool)
 | 0, _, _, _, _, _, _, _, _, _, _, _ => none
 | k + 1, x4, x5, x6, x7, b, d, c, a, h, e, g => if x7 < b then (if 0 ≤ x5 then (if x5 < (a.length : Int) then (if 0 ≤ x7 then (if x7 < ((Zae a x5).length : Int) then ((Zdh.f b d c a (rd (Zae a x5) x7)).bind fun i => (if x6.length < 17592186044416 then (Za2.l1 k x4 x5 (x6 ++ [i]) (wrap64 (x7 + 1)) b d c a h e g) else (none))) else (none)) else (none)) else (none)) else (none)) else (if e.length < 5864062014805 then ((Zbc.f c x5).bind fun j => (if g.length < 140737488355328 then (Za2.l0 k (wrap64 (x4 + 1)) b d c a h (e ++ [x6]) (g ++ [j])) else (none))) else (none))
end
def Za2.f (k : Nat) (a : Int) (b : Int) (c : Int) (d : List (List Int)) : Option (Int × (List (List Int)) × List Bool) := Za2.l0 k 0 a b c d a ([] : List (List Int)) ([] : List Bool)
def Za2.T10 : Bool × List (List Nat × List Nat) := (true, [([], []), ([], []), ([], []), ([2], [2]), ([], []), ([3, 4], [3, 4]), ([5], [5]), ([], []), ([6, 7], [6, 7]), ([8], [8]), ([1, 9], [1, 9]), ([10], [10]), ([0, 11, 10], [0, 11]), ([12, 12, 0, 1, 2, 3, 4, 5, 6, 7, 8, 9, 10, 11, 12], [0, 12])])
def Za2.B10 : List Nat := [0, 0, 0, 4, 0, 28, 60, 0, 252, 508, 1022, 2046, 4095, 8191]
theorem Za2.tab10 : rtab .any (opsOf Tryd.f47 10) = Za2.T10 := by kernel_rfl
theorem Za2.bits10 : Zc0 Za2.T10.2 Za2.B10 = true := by kernel_rfl
def Za2.T12 : Bool × List (List Nat × List Nat) := (true, [([], []), ([0], [0]), ([], []), ([2], [2]), ([], []), ([3, 4], [3, 4]), ([5], [5]), ([1, 6, 5], [1, 6]), ([0, 1, 2, 3, 4, 5, 6, 7], []), ([8, 7, 7, 0, 1, 2, 3, 4, 5, 6, 7], [7, 8])])
def Za2.B12 : List Nat := [0, 1, 0, 4, 0, 28, 60, 127, 255, 511]
theorem Za2.tab12 : rtab .any (opsOf Tryd.f47 12) = Za2.T12 := by kernel_rfl
theorem Za2.bits12 : Zc0 Za2.T12.2 Za2.B12 = true := by kernel_rfl
theorem Za2.calls (k : Nat) (m : Int) (A : Int) (z : Int) (M : Option Addr) (G : Nat) (r : List (List Int)) (r1 : Int) (r2 : List (List Int)) (r3 : List Bool) (w : World) (aR : Kd.C (Kd.slice 2 (Kd.int .i64)) w M r.length r) (aT : r.length ≤ G) (h : Za2.f k m A z r = some (r1, r2, r3)) :
  Calls Tryd.prog 47 #[.agg #[.int .i64 m, .int .i64 A, .int .i64 z, .slice M r.length G]] w fun e w' => ∃ b6 b7 : Value, e = .returned (.agg #[.int .i64 r1, b6, b7]) ∧ Kd.S (Kd.slice 2 (Kd.int .i64)) 22 w' w.heap.size (fun _ => True) b6 r2 ∧ Kd.R Kd.bool 4 w' w.heap.size (fun _ => True) b7 r3 ∧ Below w.heap.size w w' := by
 have d3 := Tryd.underlying34
 have d4 := Tryd.underlying69
 have ai := mA aR
 have ak := mA aT
 clear aR aT
 have HB := mA (Below.refl w.heap.size w)
 unfold Za2.f at h
 have H := h
 clear h
 have H' := mA H
 clear H
 go_enter Tryd.func47, Tryd.ntmps47
 go_wp2_with (first | ((with_reducible refine Zap (N := 1) rfl ?_); refine boxS (N := 1) (cs := #[.int .i64 m, .int .i64 A, .int .i64 z, .slice M r.length G]) (t := 34) ?_; intro q hg w2 hbox hb; have a := mA (hbox); have dw := geW (w := w) hg; have dx := geW (w := w) hg; replace HB := mA (Zac (bW) hb); clear hb hbox hg) | ((with_reducible refine Zap (N := 2) rfl ?_); refine boxS (N := 2) (cs := #[.int .i64 0, .slice none 0 0, .slice none 0 0]) (t := 69) ?_; intro L hg w3 hbox hb; have l := mA (hbox); have dy := geW (w := w) hg; have dz := geW (w := w) hg; replace HB := mA (Zac (bW) hb); have Y := mA (neB hg a); have aa := mA (neC hg a); replace a := mA (blkB a.out hb); clear hb hbox hg; have d5 := Y.out; have d6 := aa.out; obtain ⟨bp, bq, br, bs⟩ := Zbi a.out; obtain ⟨bu, bv, bw, bx⟩ := frz4 a.out) | ((with_reducible refine Zap (N := 3) rfl ?_); refine boxS (N := 3) (cs := #[.int .i64 0, .slice none 0 0, .slice none 0 0]) (t := 69) ?_; intro x hg w6 hbox hb; have c := mA (hbox); have dA := geW (w := w) hg; have dB := geW (w := w) hg; replace HB := mA (Zac (bW) hb); have B := mA (neB hg a); have U := mA (neC hg a); replace a := mA (blkB a.out hb); have E := mA (neB hg l); have ab := mA (neC hg l); replace l := mA (blkB l.out hb); clear hb hbox hg; have d7 := U.out; have d8 := B.out; have d9 := ab.out; have ea := E.out; obtain ⟨bz, bA, bB⟩ := cells3 c.out; obtain ⟨bC, bD, bF⟩ := frz3 c.out))
 go_loopg [4] k (fun kq v4 w' => ∃ (ah : Int) (s : List (List Int)) (u : List Bool) (D : Value) (y : Value), v4 = .int .i64 ah ∧ Zaa (Za2.l0 kq ah m A z r m s u = some (r1, r2, r3)) ∧ Zaa (kq ≤ k) ∧ Zaa (Kd.S (Kd.slice 2 (Kd.int .i64)) 22 w' w.heap.size (fun _ => True) D s) ∧ Zaa (Kd.R Kd.bool 4 w' w.heap.size (fun _ => True) y u) ∧ Zaa (w'.heap[q]? = some (.cells #[.int .i64 m, .int .i64 A, .int .i64 z, (.slice M r.length G)] 34 (0, 0))) ∧ Zaa (w'.heap[L]? = some (.cells #[.int .i64 0, (.slice none 0 0), (.slice none 0 0)] 69 (0, 0))) ∧ Zaa (w'.heap[x]? = some (.cells #[.int .i64 m, D, y] 69 (0, 0))) ∧ Zaa (Below w.heap.size w w'))
 case atStart => exact ⟨(0), (([] : List (List Int))), (([] : List Bool)), (.slice none 0 0), (.slice none 0 0), (eW), H', ⟨Nat.le_refl _⟩, ⟨by first | exact Kd.S_nil _ _ _ _ _ | exact Kd.N_nil _ _ _ _ _ | exact Kd.V_nil _ _ _ _ _ | exact Kd.Q_nil _ _ _ _ _ | exact xH _ _ _ _ _⟩, ⟨by first | exact xH _ _ _ _ _ | exact Kd.N_nil _ _ _ _ _ | exact Kd.V_nil _ _ _ _ _ | exact Kd.Q_nil _ _ _ _ _ | exact Kd.S_nil _ _ _ _ _⟩, ⟨by (with_reducible repeat (first | refine Zaj ?_ _ | refine Zad ?_ | refine Zaf ?_ _)); refine Za4 ?_ B.out _; (with_reducible repeat (first | refine Zaj ?_ _ | refine Zad ?_ | refine Zaf ?_ _)); refine Za4 ?_ B.out _; (with_reducible repeat (first | refine Zaj ?_ _ | refine Zad ?_ | refine Zaf ?_ _)); refine Za4 ?_ B.out _; exact bP a.out⟩, ⟨by (with_reducible repeat (first | refine Zaj ?_ _ | refine Zad ?_ | refine Zaf ?_ _)); refine Za4 ?_ E.out _; (with_reducible repeat (first | refine Zaj ?_ _ | refine Zad ?_ | refine Zaf ?_ _)); refine Za4 ?_ E.out _; (with_reducible repeat (first | refine Zaj ?_ _ | refine Zad ?_ | refine Zaf ?_ _)); refine Za4 ?_ E.out _; exact bP l.out⟩, ⟨by (with_reducible repeat (first | refine Zaj ?_ _ | refine Zad ?_ | refine Zaf ?_ _)); refine Za3 (cs := #[.int .i64 m, .slice none 0 0, .slice none 0 0]) ?_ 2 _ rfl; (with_reducible repeat (first | refine Zaj ?_ _ | refine Zad ?_ | refine Zaf ?_ _)); refine Za3 (cs := #[.int .i64 m, .slice none 0 0, .slice none 0 0]) ?_ 1 _ rfl; (with_reducible repeat (first | refine Zaj ?_ _ | refine Zad ?_ | refine Zaf ?_ _)); refine Za3 (cs := #[.int .i64 0, .slice none 0 0, .slice none 0 0]) ?_ 0 _ rfl; exact bP c.out⟩, ⟨bW⟩⟩
 case round =>
  clear H' bp bq br bs bz bA bB bu bv bw bx bC bD bF
  obtain ⟨ah, s, u, D, y, rfl, HA, aU, j, d, a, l, c, HB⟩ := hrel
  cases gk with
  | zero => exact absurd HA.out (by simp [Za2.l0])
  | succ k1 =>
   have H := HA.out
   clear HA
   simp only [Za2.l0] at H
   replace H := bE H
   obtain ⟨aE, bG, H⟩ := H
   have b8 := mA bG
   clear bG
   by_cases an : ah < aE; rotate_left
   ·rw [if_neg an] at H
    have aV := dF an
    clear an
    simp only [Option.some.injEq, Prod.mk.injEq] at H
    obtain ⟨rfl, rfl, rfl⟩ := H
    have dC := Y.out
    have dD := aa.out
    have dE := B.out
    have dG := U.out
    have ci : wr.cell? ⟨q, 0, none⟩ = some (.int .i64 m) := bc a 0
    have cj : wr.cell? ⟨q, 1, none⟩ = some (.int .i64 A) := bc a 1
    have ck : wr.cell? ⟨q, 2, none⟩ = some (.int .i64 z) := bc a 2
    have cm : wr.cell? ⟨q, 3, none⟩ = some (.slice M r.length G) := bc a 3
    have cn := Zab a.out 0
    have co := Zab a.out 1
    have cp := Zab a.out 2
    have cq := Zab a.out 3
    go_wp2_with (first | ((with_reducible refine Zav (f := 48) rfl ?_); refine Zbo (some 13) Tryd.func48 #[.agg #[.int .i64 m, .int .i64 A, .int .i64 z, .slice M r.length G]] ?_; (with_reducible refine (Zbr.calls m A z _ _ r aE _ ?side1 ?side2 b8.out).mono ?_); (case side1 => exact cP (zF ai.out HB.out)); (case side2 => exact ak.out); rintro e eg ⟨rfl, hb⟩; refine ⟨_, rfl, ?_⟩; replace j := mA (yQ (sP j.out) hb); replace d := mA (zK (rP d.out) hb); replace a := mA (blkB a.out hb); replace l := mA (blkB l.out hb); replace c := mA (blkB c.out hb); replace HB := mA (Zac (bW) hb); (try clear hb); (try clear hb2); (try clear hk); (try clear hi); have dH := ab.out; have dI := E.out; obtain ⟨cr, ct, cu⟩ := cells3 c.out; obtain ⟨cv, cw, cx⟩ := frz3 c.out; obtain ⟨cy, cz, cA⟩ := cells3 l.out; obtain ⟨cC, cD, cE⟩ := frz3 l.out; obtain ⟨au, av, cb⟩ := xK j.out; subst cb; obtain ⟨aG, aH, cc⟩ := zJ d.out; subst cc))
    refine bodyPost_ret (results_cell_row rfl _ _ L 69 #[.int .i64 m, .slice au s.length av, .slice aG u.length aH] (0, 0) _ rfl (by (with_reducible repeat (first | refine Zaj ?_ _ | refine Zad ?_ | refine Zaf ?_ _)); refine Za3 (cs := #[.int .i64 m, .slice au s.length av, .slice none 0 0]) ?_ 2 _ rfl; (with_reducible repeat (first | refine Zaj ?_ _ | refine Zad ?_ | refine Zaf ?_ _)); refine Za3 (cs := #[.int .i64 m, .slice none 0 0, .slice none 0 0]) ?_ 1 _ rfl; (with_reducible repeat (first | refine Zaj ?_ _ | refine Zad ?_ | refine Zaf ?_ _)); refine Za3 (cs := #[.int .i64 0, .slice none 0 0, .slice none 0 0]) ?_ 0 _ rfl; exact bP l.out) Tryd.underlying69 rfl (by kernel_rfl)) rfl ?_
    exact ⟨_, _, eW, by (with_reducible repeat (first | apply yD | apply yE | apply zW)); exact yC (zZ (p := ⟨L, 2, none⟩) (zZ (p := ⟨L, 1, none⟩) (zZ (p := ⟨L, 0, none⟩) (yZ j.out l.out (by decide)) (fun _ hk => hk.2) (.int .i64 m)) (fun _ hk => hk.2) (.slice au s.length av)) (fun _ hk => hk.2) (.slice aG u.length aH)) (fun _ hk => trivial), by (with_reducible repeat (first | apply zC | apply zD | apply zA)); exact zB (zQ (p := ⟨L, 2, none⟩) (zQ (p := ⟨L, 1, none⟩) (zQ (p := ⟨L, 0, none⟩) (yA d.out l.out (by decide)) (fun _ hk => hk.2) (.int .i64 m)) (fun _ hk => hk.2) (.slice au s.length av)) (fun _ hk => hk.2) (.slice aG u.length aH)) (fun _ hk => trivial), bW⟩
   rw [if_pos an] at H
   have aV := dT an
   clear an
   replace H := bE H
   obtain ⟨I, bH, H⟩ := H
   have dl := mA bH
   clear bH
   obtain ⟨bI, aw⟩ : ∃ y_ : List Int, y_ = (([] : List Int)) := ⟨_, rfl⟩
   replace H : (Za2.l1 k1 ah I bI 0 m A z r m s u) = some (r1, r2, r3) := by rw [aw]; with_reducible exact H
   have aW := mA aw
   clear aw
   have H' := mA H
   clear H
   have dJ := Y.out
   have dK := aa.out
   have dL := B.out
   have dM := U.out
   have a7 : wr.cell? ⟨q, 0, none⟩ = some (.int .i64 m) := bc a 0
   have a8 : wr.cell? ⟨q, 1, none⟩ = some (.int .i64 A) := bc a 1
   have a9 : wr.cell? ⟨q, 2, none⟩ = some (.int .i64 z) := bc a 2
   have ba : wr.cell? ⟨q, 3, none⟩ = some (.slice M r.length G) := bc a 3
   have bb := Zab a.out 0
   have bd := Zab a.out 1
   have bf := Zab a.out 2
   have bg := Zab a.out 3
   go_wp2_with (first | ((with_reducible refine Zav (f := 48) rfl ?_); refine Zbo (some 13) Tryd.func48 #[.agg #[.int .i64 m, .int .i64 A, .int .i64 z, .slice M r.length G]] ?_; (with_reducible refine (Zbr.calls m A z _ _ r aE _ ?side1 ?side2 b8.out).mono ?_); (case side1 => exact cP (zF ai.out HB.out)); (case side2 => exact ak.out); rintro e eh ⟨rfl, hb⟩; refine ⟨_, rfl, ?_⟩; replace j := mA (yQ (sP j.out) hb); replace d := mA (zK (rP d.out) hb); replace a := mA (blkB a.out hb); replace l := mA (blkB l.out hb); replace c := mA (blkB c.out hb); replace HB := mA (Zac (bW) hb); (try clear hb); (try clear hb2); (try clear hk); (try clear hi); obtain ⟨bh, bi, bj, bk⟩ := Zbi a.out; obtain ⟨bl, bm, bn, bo⟩ := frz4 a.out) | ((with_reducible refine Zav (f := 71) rfl ?_); refine Zbo (some 19) Tryd.func71 #[.agg #[.int .i64 m, .int .i64 A, .int .i64 z, .slice M r.length G], .int .i64 ah] ?_; (with_reducible refine (Zdh.calls m A z _ _ r ah I _ ?side1 ?side2 dl.out).mono ?_); (case side1 => exact cP (zF ai.out HB.out)); (case side2 => exact ak.out); rintro e ei ⟨rfl, hb⟩; refine ⟨_, rfl, ?_⟩; replace j := mA (yQ (sP j.out) hb); replace d := mA (zK (rP d.out) hb); replace a := mA (blkB a.out hb); replace l := mA (blkB l.out hb); replace c := mA (blkB c.out hb); replace HB := mA (Zac (bW) hb); (try clear hb); (try clear hb2); (try clear hk); (try clear hi)) | ((with_reducible refine Zap (N := 20) rfl ?_); refine yT (Kd.int .i64) _ 2 ?hg (N := 20) ?hd (xs := ([] : List Int)) (inner := []) (ok := fun _ => True) (okp := fun _ => True) ?hr ?hp (fun _ hk => hk) trivial (Below.refl _ _) (Nat.le_refl _) (by simp) ?_; (case hd => rfl); (case hg => rfl); (case hr => first | (go_simp; done) | (go_simp; rfl)); (case hp => exact (Reps.none _ _)); intro eb ej aj hb hg_ hnew_; clear hg_ hnew_; (first | rw [← aW.out] at aj | (simp only [Int.reduceToNat] at aj; rw [← aW.out] at aj)); replace j := mA (xB (sP j.out) (zH aj) hb); replace d := mA (zK (rP d.out) hb); have bX := mA (zP aj (Zag (bW))); replace a := mA (blkB a.out hb); replace l := mA (blkB l.out hb); replace c := mA (blkB c.out hb); replace HB := mA (Zac (bW) hb); clear hb aj))
   go_loopg [6, 7] k1 (fun kq v6 v7 w' => ∃ (ac : List Int) (W : Int), v7 = .int .i64 W ∧ Zaa (Za2.l1 kq ah I ac W m A z r m s u = some (r1, r2, r3)) ∧ Zaa (kq ≤ k1) ∧ Zaa (Kd.R (Kd.int .i64) 2 w' w.heap.size (fun _ => True) v6 ac) ∧ Zaa (Kd.S (Kd.slice 2 (Kd.int .i64)) 22 w' w.heap.size (fun k_ => some k_ ≠ (v6 : Value).ownBlock) D s) ∧ Zaa (Kd.R Kd.bool 4 w' w.heap.size (fun _ => True) y u) ∧ Zaa (w'.heap[q]? = some (.cells #[.int .i64 m, .int .i64 A, .int .i64 z, (.slice M r.length G)] 34 (0, 0))) ∧ Zaa (w'.heap[L]? = some (.cells #[.int .i64 0, (.slice none 0 0), (.slice none 0 0)] 69 (0, 0))) ∧ Zaa (w'.heap[x]? = some (.cells #[.int .i64 m, D, y] 69 (0, 0))) ∧ Zaa (Below w.heap.size w w'))
   case atStart => exact ⟨(bI), (0), (eW), H', ⟨Nat.le_refl _⟩, ⟨rP bX.out⟩, ⟨by (with_reducible repeat (first | apply yD | apply yE | apply zW)); exact yC j.out (fun _ hk => hk.2)⟩, ⟨rP d.out⟩, ⟨bP a.out⟩, ⟨bP l.out⟩, ⟨bP c.out⟩, ⟨bW⟩⟩
   case round =>
    clear H' aV a7 a8 a9 ba bh bi bj bk bb bd bf bg bl bm bn bo
    obtain ⟨ac, W, rfl, HA, aX, O, j, d, a, l, c, HB⟩ := hrel
    cases gk with
    | zero => exact absurd HA.out (by simp [Za2.l1])
    | succ k2 =>
     have H := HA.out
     clear HA
     simp only [Za2.l1] at H
     by_cases ao : W < m
     ·rw [if_pos ao] at H
      have bY := dT ao
      clear ao
      by_cases aY : 0 ≤ I; rotate_left
      ·rw [if_neg aY] at H
       exact absurd H (by simp)
      rw [if_pos aY] at H
      have dN := dT aY
      clear aY
      by_cases aZ : I < (r.length : Int); rotate_left
      ·rw [if_neg aZ] at H
       exact absurd H (by simp)
      rw [if_pos aZ] at H
      have dO := dT aZ
      clear aZ
      by_cases a0 : 0 ≤ W; rotate_left
      ·rw [if_neg a0] at H
       exact absurd H (by simp)
      rw [if_pos a0] at H
      have dP := dT a0
      clear a0
      by_cases a1 : W < ((Zae r I).length : Int); rotate_left
      ·rw [if_neg a1] at H
       exact absurd H (by simp)
      rw [if_pos a1] at H
      have dQ := dT a1
      clear a1
      replace H := bE H
      obtain ⟨ax, bJ, H⟩ := H
      have dm := mA bJ
      clear bJ
      by_cases a2 : ac.length < 17592186044416; rotate_left
      ·rw [if_neg a2] at H
       exact absurd H (by simp)
      rw [if_pos a2] at H
      have bZ := mA a2
      clear a2
      obtain ⟨cd, ay⟩ : ∃ y_ : List Int, y_ = (ac ++ [ax]) := ⟨_, rfl⟩
      rw [← ay] at H
      have b0 := mA ay
      clear ay
      have H' := mA H
      clear H
      have dR := Y.out
      have dS := aa.out
      have dU := B.out
      have dV := U.out
      have cF : wr.cell? ⟨q, 0, none⟩ = some (.int .i64 m) := bc a 0
      have cG : wr.cell? ⟨q, 1, none⟩ = some (.int .i64 A) := bc a 1
      have cH : wr.cell? ⟨q, 2, none⟩ = some (.int .i64 z) := bc a 2
      have cI : wr.cell? ⟨q, 3, none⟩ = some (.slice M r.length G) := bc a 3
      have cJ := Zab a.out 0
      have cK := Zab a.out 1
      have cL := Zab a.out 2
      have cM := Zab a.out 3
      try go_wp2
      replace O := mA (zA O.out)
      replace j := mA (zW j.out)
      replace d := mA (zA d.out)
      replace a := mA (Zad a.out)
      replace l := mA (Zad l.out)
      replace c := mA (Zad c.out)
      replace HB := mA (Za0 HB.out)
      have aI : 0 ≤ (I : Int) := ofD
      have aJ : I < (r.length : Int) := ofD
      obtain ⟨al, dn, bK, ce, ad, ap, aq⟩ := Zch ai.out I aI aJ
      have ae := ad
      cases ce
      replace ad := (HB.out.cell (wB w ad)).trans ad
      have ar := mA aq
      have cN := mA ap
      clear aq ap
      replace aI := eq_true aI
      replace aJ := eq_true aJ
      have aK : 0 ≤ (W : Int) := ofD
      have aM : W < ((Zae r I).length : Int) := ofD
      obtain ⟨a3, cf, af⟩ := zI ar.out W aK aM
      have ag := af
      cases cf
      replace af := (HB.out.cell (wB w af)).trans af
      replace aK := eq_true aK
      replace aM := eq_true aM
      refine Zcq (n := 14) (S := fun w' => w'.cell? ⟨q, 0, none⟩ = some (.int .i64 m) ∧ w'.cell? ⟨q, 1, none⟩ = some (.int .i64 A) ∧ w'.cell? ⟨q, 2, none⟩ = some (.int .i64 z) ∧ w'.cell? ⟨q, 3, none⟩ = some (.slice (some al) r.length G) ∧ w'.cell? (al.add (I).toNat) = some (.slice (some a3) (Zae r I).length bK) ∧ w'.cell? (a3.add (W).toNat) = some (.int .i64 (rd (Zae r I) W))) (ds := []) #[false, false, false, false, false, false, false, false, false, false, false, false, false, false] (by kernel_rfl) rfl rfl ⟨bc a 0, bc a 1, bc a 2, bc a 3, (cB HB ae :), (cB HB ag :)⟩ (fun hHeld => ?_); refine Zb7 Za2.tab10 Za2.bits10 (fun HT_ HW_ => ?_)
      generalize wr.drew = w31 at O j d a l c HB ar ad af hHeld ⊢
      refine Zan (i := 0) (N := some 27) (Zai HT_.out (by kernel_rfl)) ?_
      refine Zan (i := 2) (N := some 29) (Zai HT_.out (by kernel_rfl)) ?_
      refine Zan (i := 4) (N := some 31) (Zai HT_.out (by kernel_rfl)) ?_
      refine Zan (i := 7) (N := some 34) (Zai HT_.out (by kernel_rfl)) ?_
      refine Za8 (i := 1) (N := some 28) (Zaz HT_.out HW_.out (by kernel_rfl)) hHeld ?_
      refine Za8 (i := 3) (N := some 30) (Zaz HT_.out HW_.out (by kernel_rfl)) hHeld ?_
      refine Zan (i := 5) (N := some 32) (Zai HT_.out (by kernel_rfl)) ?_
      refine Za8 (i := 6) (N := some 33) (Zaz HT_.out HW_.out (by kernel_rfl)) hHeld ?_
      refine Zan (i := 8) (N := some 35) (Zai HT_.out (by kernel_rfl)) ?_
      refine Za8 (i := 9) (N := some 36) (Zaz HT_.out HW_.out (by kernel_rfl)) hHeld ?_
      refine one_ (i := 10) (N := some 37) #[true, true, true, true, true, true, true, true, true, true, true, false, false, false] rfl rfl (Za9 HT_.out (by kernel_rfl)) (by decide) (fun K hK => ?_)
      refine Zb6 Tryd.func71 (by kernel_rfl) rfl #[.agg #[.int .i64 m, .int .i64 A, .int .i64 z, .slice (some al) r.length G], .int .i64 (rd (Zae r I) W)] (by rfl) rfl rfl (by (try simp only [List.map_toArray, List.map_cons, List.map_nil]); first | done | rfl | (simp only [List.length_drop, List.length_take]; rfl)) ?_
      with_reducible refine (Zdh.calls m A z _ _ r (rd (Zae r I) W) ax _ ?side1 ?side2 dm.out).mono ?_
      (case side1 => exact cP (zF ai.out HB.out))
      (case side2 => exact ak.out)
      rintro e ek ⟨rfl, hb⟩
      refine ⟨_, rfl, ?_⟩
      replace O := mA (zK (rP O.out) hb)
      replace j := mA (yQ (sP j.out) hb)
      replace d := mA (zK (rP d.out) hb)
      replace a := mA (blkB a.out hb)
      replace l := mA (blkB l.out hb)
      replace c := mA (blkB c.out hb)
      replace HB := mA (Zac (bW) hb)
      (try clear hb)
      (try clear hb2)
      (try clear hk)
      (try clear hi)
      refine hK.out _ _ ⟨bc a 0, bc a 1, bc a 2, bc a 3, (cB HB ae :), (cB HB ag :)⟩ (fun hHeld => ?_)
      clear hK K
      refine putS 37 ?_
      refine one_ (i := 11) (N := some 38) #[true, true, true, true, true, true, true, true, true, true, true, true, false, false] rfl rfl (Za9 HT_.out (by kernel_rfl)) (by decide) (fun K hK => ?_)
      refine value_ (w1 := ?_) (v := ?_) (by rfl) rfl ?_ ?_
      rotate_left 2
      ·go_simp
       constructor
       ·rfl
       ·rfl
      refine hK.out _ _ ⟨(Zb5 (Zaf a.out _) 0).trans rfl, (Zb5 (Zaf a.out _) 1).trans rfl, (Zb5 (Zaf a.out _) 2).trans rfl, (Zb5 (Zaf a.out _) 3).trans rfl, (World.cell?_alloc_lt _ _ _ (World.block_lt_of_cell? _ _ ((cB HB ae :)))).trans ((cB HB ae :)), (World.cell?_alloc_lt _ _ _ (World.block_lt_of_cell? _ _ ((cB HB ag :)))).trans ((cB HB ag :))⟩ (fun hHeld => ?_)
      clear hK K
      refine putS 38 ?_
      refine one_ (i := 12) (N := some 39) #[true, true, true, true, true, true, true, true, true, true, true, true, true, false] rfl rfl (Za9 HT_.out (by kernel_rfl)) (by decide) (fun K hK => ?_)
      refine qD (Kd.int .i64) (w0 := w) w.heap.size (by rfl) (.tmp 27) (.tmp 38) 22 2 (.int .i64 0) 8 rfl Tryd.underlying22 info2 rfl (by decide) (by omega) u6 ac ax [.int .i64 ax] (fun _ => True) (fun _ => False) rfl rfl ?aP (fun _ hk => hk.elim) ?aF ?aO ?aB ?aS ?aL ?_
      (case aP => exact rfl)
      (case aB => exact (bW))
      (case aF => exact (fun _ _ => trivial))
      (case aO => exact (rP O.out))
      (case aS => exact (Zag (bW)))
      (case aL => have := bZ.out; omega)
      intro ec el ho hb hg hat
      rw [← b0.out] at ho
      replace j := mA (xY (ok := (fun _ => True)) (by (with_reducible repeat (first | apply yD | apply yE | apply zW)); exact yC j.out (fun _ hk => ⟨trivial, hk⟩)) hg hat)
      replace d := mA (yM (rP d.out) (yU (rP O.out)) (by decide) hg)
      replace a := mA (Zaq (g := q) (o := .cells #[.int .i64 m, .int .i64 A, .int .i64 z, .slice (some al) r.length G] 34 (0, 0)) (bP a.out) hg (zO O.out a.out (by decide)))
      replace l := mA (Zaq (g := L) (o := .cells #[.int .i64 0, .slice none 0 0, .slice none 0 0] 69 (0, 0)) (bP l.out) hg (zO O.out l.out (by decide)))
      replace c := mA (Zaq (g := x) (o := .cells #[.int .i64 m, D, y] 69 (0, 0)) (bP c.out) hg (zO O.out c.out (by decide)))
      replace HB := mA (hb)
      have b1 := mA (ho)
      clear O ho hb hg hat
      refine hK.out _ _ ⟨bc a 0, bc a 1, bc a 2, bc a 3, (cB HB ae :), (cB HB ag :)⟩ (fun hHeld => ?_)
      clear hK K
      refine putS 39 ?_
      refine Zan (i := 13) (N := some 6) (Zai HT_.out (by kernel_rfl)) ?_
      refine Zcz (Zct HT_.out (by kernel_rfl)) ?_
      try go_wp2
      go_roundg k2
      case measure => have := aU.out; have := aX.out; omega
      case rel => exact ⟨(cd), (wrap64 (W + 1)), (eW), H', ⟨by have := aU.out; have := aX.out; omega⟩, ⟨rP b1.out⟩, ⟨by (with_reducible repeat (first | apply yD | apply yE | apply zW)); exact yC j.out (fun _ hk => hk.2)⟩, ⟨rP d.out⟩, ⟨bP a.out⟩, ⟨bP l.out⟩, ⟨bP c.out⟩, ⟨bW⟩⟩
     rw [if_neg ao] at H
     have bY := dF ao
     clear ao
     by_cases a4 : s.length < 5864062014805; rotate_left
     ·rw [if_neg a4] at H
      exact absurd H (by simp)
     rw [if_pos a4] at H
     have b2 := mA a4
     clear a4
     obtain ⟨J, az⟩ : ∃ y_ : List (List Int), y_ = (s ++ [ac]) := ⟨_, rfl⟩
     rw [← az] at H
     have b3 := mA az
     clear az
     replace H := bE H
     obtain ⟨aA, bL, H⟩ := H
     have dp := mA bL
     clear bL
     by_cases a5 : u.length < 140737488355328; rotate_left
     ·rw [if_neg a5] at H
      exact absurd H (by simp)
     rw [if_pos a5] at H
     have b4 := mA a5
     clear a5
     obtain ⟨aC, aD⟩ : ∃ y_ : List Bool, y_ = (u ++ [aA]) := ⟨_, rfl⟩
     rw [← aD] at H
     have b5 := mA aD
     clear aD
     have H' := mA H
     clear H
     have dW := Y.out
     have dX := aa.out
     have dY := B.out
     have dZ := U.out
     have cO : wr.cell? ⟨q, 0, none⟩ = some (.int .i64 m) := bc a 0
     have cQ : wr.cell? ⟨q, 1, none⟩ = some (.int .i64 A) := bc a 1
     have cR : wr.cell? ⟨q, 2, none⟩ = some (.int .i64 z) := bc a 2
     have cS : wr.cell? ⟨q, 3, none⟩ = some (.slice M r.length G) := bc a 3
     have cT := Zab a.out 0
     have cU := Zab a.out 1
     have cV := Zab a.out 2
     have cW := Zab a.out 3
     have d0 := ab.out
     have d1 := E.out
     have cX : wr.cell? ⟨x, 0, none⟩ = some (.int .i64 m) := bc c 0
     have cY : wr.cell? ⟨x, 1, none⟩ = some (D) := bc c 1
     have cZ : wr.cell? ⟨x, 2, none⟩ = some (y) := bc c 2
     have c0 := Zab c.out 0
     have c1 := Zab c.out 1
     have da := Zab c.out 2
     obtain ⟨bM, bN, cg⟩ := zJ O.out
     subst cg
     try go_wp2_with (first | ((with_reducible refine Zbl (b := .append) (xs := #[.tmp 41, .tmp 43]) rfl ?_); at_builtin; refine Kd.S_append (Kd.slice 2 (Kd.int .i64)) (w0 := w) w.heap.size rfl (.tmp 41) (.tmp 43) 25 22 (.slice none 0 0) 24 rfl Tryd.underlying25 info22 rfl (by decide) (by omega) D s ac [.slice bM ac.length bN] (fun _ => True) (fun k_ => some k_ = (.slice bM ac.length bN : Value).ownBlock) rfl rfl ?aP (fun k_ hk_ => ((zB (ok' := fun k_ => ((fun _ => True)) k_ ∧ some k_ ≠ (D : Value).ownBlock) (yY (O.out) (xJ j.out) (by decide)) (fun k_ hk => ⟨trivial, hk.2⟩))).1 k_ hk_.symm) ?aF ?aO ?aB ?aS ?aL ?_; (case aP => exact Kd.M_row (zB (Kd.R_tight rfl (zB (ok' := fun k_ => ((fun _ => True)) k_ ∧ some k_ ≠ (D : Value).ownBlock) (yY (O.out) (xJ j.out) (by decide)) (fun k_ hk => ⟨trivial, hk.2⟩))) (fun _ h_ => h_))); (case aB => exact (bW)); (case aF => exact (fun _ _ => trivial)); (case aO => exact (by (with_reducible repeat (first | apply yD | apply yE | apply zW)); exact yC j.out (fun k_ hk => ⟨trivial, fun e_ => hk e_⟩))); (case aS => exact (Zag (bW))); (case aL => have := b2.out; omega); intro ed am ho hb hg hat; rw [← b3.out] at ho; replace d := mA (yM (rP d.out) (xJ (sP j.out)) (by decide) hg); replace a := mA (Zaq (g := q) (o := .cells #[.int .i64 m, .int .i64 A, .int .i64 z, .slice M r.length G] 34 (0, 0)) (bP a.out) hg (Kd.S_ne j.out a.out (by decide))); replace l := mA (Zaq (g := L) (o := .cells #[.int .i64 0, .slice none 0 0, .slice none 0 0] 69 (0, 0)) (bP l.out) hg (Kd.S_ne j.out l.out (by decide))); replace c := mA (Zaq (g := x) (o := .cells #[.int .i64 m, D, y] 69 (0, 0)) (bP c.out) hg (Kd.S_ne j.out c.out (by decide))); replace HB := mA (hb); have X := mA (ho); clear j O ho hb hg hat; obtain ⟨P, T, ch⟩ := xK X.out; subst ch; obtain ⟨db, dc, dd⟩ := cells3 c.out; obtain ⟨de, df, dg⟩ := frz3 c.out))
     have bO : Zaa (Kd.R Kd.bool 4 (am.setCell ⟨x, 1, none⟩ (.slice P J.length T)) w.heap.size (fun _ => True) y u) := ⟨by (with_reducible repeat (first | apply zC | apply zD | apply zA)); exact zB (zQ (p := ⟨x, 1, none⟩) (yA d.out c.out (by decide)) (fun _ hk => hk.2) (.slice P J.length T)) (fun _ hk => trivial)⟩
     have bQ : Zaa (Kd.S (Kd.slice 2 (Kd.int .i64)) 22 (am.setCell ⟨x, 1, none⟩ (.slice P J.length T)) w.heap.size (fun _ => True) (.slice P J.length T) J) := ⟨by (with_reducible repeat (first | apply yD | apply yE | apply zW)); exact yC (zZ (p := ⟨x, 1, none⟩) (yZ X.out c.out (by decide)) (fun _ hk => hk.2) (.slice P J.length T)) (fun _ hk => trivial)⟩
     have bR : Zaa ((am.setCell ⟨x, 1, none⟩ (.slice P J.length T)).heap[q]? = some (.cells #[.int .i64 m, .int .i64 A, .int .i64 z, .slice M r.length G] 34 (0, 0))) := ⟨by (with_reducible repeat (first | refine Zaj ?_ _ | refine Zad ?_ | refine Zaf ?_ _)); refine Za4 ?_ B.out _; exact bP a.out⟩
     have bS : Zaa ((am.setCell ⟨x, 1, none⟩ (.slice P J.length T)).heap[L]? = some (.cells #[.int .i64 0, .slice none 0 0, .slice none 0 0] 69 (0, 0))) := ⟨by (with_reducible repeat (first | refine Zaj ?_ _ | refine Zad ?_ | refine Zaf ?_ _)); refine Za4 ?_ E.out _; exact bP l.out⟩
     have bT : Zaa ((am.setCell ⟨x, 1, none⟩ (.slice P J.length T)).heap[x]? = some (.cells #[.int .i64 m, .slice P J.length T, y] 69 (0, 0))) := ⟨by (with_reducible repeat (first | refine Zaj ?_ _ | refine Zad ?_ | refine Zaf ?_ _)); refine Za3 (cs := #[.int .i64 m, D, y]) ?_ 1 _ rfl; exact bP c.out⟩
     have bU : Zaa (Below w.heap.size w (am.setCell ⟨x, 1, none⟩ (.slice P J.length T))) := ⟨bW⟩
     (try clear d)
     (try clear X)
     (try clear a)
     (try clear l)
     (try clear c)
     (try clear HB)
     generalize (am.setCell ⟨x, 1, none⟩ (.slice P J.length T)) = dq at bO bQ bR bS bT bU ⊢
     have d := bO; have X := bQ; have a := bR; have l := bS; have c := bT; have HB := bU; clear bO bQ bR bS bT bU
     replace d := mA (zA d.out)
     replace X := mA (zW X.out)
     replace a := mA (Zad a.out)
     replace l := mA (Zad l.out)
     replace c := mA (Zad c.out)
     replace HB := mA (Za0 HB.out)
     refine Zcq (n := 10) (S := fun w' => w'.cell? ⟨x, 0, none⟩ = some (.int .i64 m) ∧ w'.cell? ⟨x, 1, none⟩ = some (.slice P J.length T) ∧ w'.cell? ⟨x, 2, none⟩ = some (y) ∧ w'.cell? ⟨q, 0, none⟩ = some (.int .i64 m) ∧ w'.cell? ⟨q, 1, none⟩ = some (.int .i64 A) ∧ w'.cell? ⟨q, 2, none⟩ = some (.int .i64 z) ∧ w'.cell? ⟨q, 3, none⟩ = some (.slice M r.length G)) (ds := [9]) #[false, false, false, false, false, false, false, false, false, false] (by kernel_rfl) rfl rfl ⟨bc c 0, bc c 1, bc c 2, bc a 0, bc a 1, bc a 2, bc a 3⟩ (fun hHeld => ?_); refine Zb7 Za2.tab12 Za2.bits12 (fun HT_ HW_ => ?_)
     generalize dq.drew = w47 at d X a l c HB hHeld ⊢
     refine Zan (i := 0) (N := some 46) (Zai HT_.out (by kernel_rfl)) ?_
     refine Zan (i := 2) (N := some 48) (Zai HT_.out (by kernel_rfl)) ?_
     refine Zan (i := 4) (N := some 50) (Zai HT_.out (by kernel_rfl)) ?_
     refine Za8 (i := 1) (N := some 47) (Zaz HT_.out HW_.out (by kernel_rfl)) hHeld ?_
     refine Za8 (i := 3) (N := some 49) (Zaz HT_.out HW_.out (by kernel_rfl)) hHeld ?_
     refine one_ (i := 5) (N := some 51) #[true, true, true, true, true, true, false, false, false, false] rfl rfl (Za9 HT_.out (by kernel_rfl)) (by decide) (fun K hK => ?_)
     refine Zb6 Tryd.func49 (by kernel_rfl) rfl #[.int .i64 z, .int .i64 I] (by rfl) rfl rfl (by (try simp only [List.map_toArray, List.map_cons, List.map_nil]); first | done | rfl | (simp only [List.length_drop, List.length_take]; rfl)) ?_
     with_reducible refine (Zbc.calls z I aA _ dp.out).mono ?_
     rintro e w' ⟨rfl, ⟨nd, rfl⟩⟩
     refine ⟨_, rfl, ?_⟩
     refine hK.out _ _ ⟨bc c 0, bc c 1, bc c 2, bc a 0, bc a 1, bc a 2, bc a 3⟩ (fun hHeld => ?_)
     clear hK K
     refine putS 51 ?_
     refine one_ (i := 6) (N := some 52) #[true, true, true, true, true, true, true, false, false, false] rfl rfl (Za9 HT_.out (by kernel_rfl)) (by decide) (fun K hK => ?_)
     refine value_ (w1 := ?_) (v := ?_) (by rfl) rfl ?_ ?_
     rotate_left 2
     ·go_simp
      constructor
      ·rfl
      ·rfl
     refine hK.out _ _ ⟨(Zb5 (Zaf c.out _) 0).trans rfl, (Zb5 (Zaf c.out _) 1).trans rfl, (Zb5 (Zaf c.out _) 2).trans rfl, (Zb5 (Zaf a.out _) 0).trans rfl, (Zb5 (Zaf a.out _) 1).trans rfl, (Zb5 (Zaf a.out _) 2).trans rfl, (Zb5 (Zaf a.out _) 3).trans rfl⟩ (fun hHeld => ?_)
     clear hK K
     refine putS 52 ?_
     refine one_ (i := 7) (N := some 53) #[true, true, true, true, true, true, true, true, false, false] rfl rfl (Za9 HT_.out (by kernel_rfl)) (by decide) (fun K hK => ?_)
     refine qD Kd.bool (w0 := w) w.heap.size (by rfl) (.tmp 47) (.tmp 52) 46 4 (.bool false) 1 rfl Tryd.underlying46 info4 rfl (by decide) (by omega) y u aA [.bool aA] (fun _ => True) (fun _ => False) rfl rfl ?aP (fun _ hk => hk.elim) ?aF ?aO ?aB ?aS ?aL ?_
     (case aP => exact rfl)
     (case aB => exact (bW))
     (case aF => exact (fun _ _ => trivial))
     (case aO => exact (rP d.out))
     (case aS => exact (Zag (bW)))
     (case aL => have := b4.out; omega)
     intro ee dr ho hb hg hat
     rw [← b5.out] at ho
     replace a := mA (Zaq (g := q) (o := .cells #[.int .i64 m, .int .i64 A, .int .i64 z, .slice M r.length G] 34 (0, 0)) (bP a.out) hg (zO d.out a.out (by decide)))
     replace l := mA (Zaq (g := L) (o := .cells #[.int .i64 0, .slice none 0 0, .slice none 0 0] 69 (0, 0)) (bP l.out) hg (zO d.out l.out (by decide)))
     replace c := mA (Zaq (g := x) (o := .cells #[.int .i64 m, .slice P J.length T, y] 69 (0, 0)) (bP c.out) hg (zO d.out c.out (by decide)))
     replace X := mA (Kd.S_over' (sP X.out) (yU (rP d.out)) (by decide) hg)
     replace HB := mA (hb)
     have a6 := mA (ho)
     clear d ho hb hg hat
     obtain ⟨aN, aQ, bV⟩ := zJ a6.out
     (first | subst bV | (injection bV with b9 dt ca; have du := b9.symm; have dv := ca.symm; clear b9 dt ca; subst du; subst dv))
     refine hK.out _ _ ⟨bc c 0, bc c 1, bc c 2, bc a 0, bc a 1, bc a 2, bc a 3⟩ (fun hHeld => ?_)
     clear hK K
     refine putS 53 ?_
     refine Zan (i := 8) (N := some 54) (Zai HT_.out (by kernel_rfl)) ?_
     refine last_ (i := 9) (N := none) #[true, true, true, true, true, true, true, true, true, true] rfl rfl (Za9 HT_.out (by kernel_rfl)) (by decide) (fun K hK => ?_)
     have ef : dr.cell? ⟨x, 2, none⟩ = some (y) := bc c 2
     have d2 := Zab c.out 2
     have dh := B.out
     have di := E.out
     have dj := U.out
     have dk := ab.out
     refine skip_ (w1 := ?_) (by rfl) rfl ?_ ?_
     rotate_left
     ·go_simp
      rfl
     refine hK.out _ _ ?_
     clear hK K
     refine Zcz (Zct HT_.out (by kernel_rfl)) ?_
     try go_wp2
     go_roundg k2
     case measure => have := aU.out; have := aX.out; omega
     case rel => exact ⟨(wrap64 (ah + 1)), (J), (aC), (.slice P J.length T), (.slice aN aC.length aQ), (eW), H', ⟨by have := aU.out; have := aX.out; omega⟩, ⟨by (with_reducible repeat (first | apply yD | apply yE | apply zW)); exact yC (zZ (p := ⟨x, 2, none⟩) (yZ X.out c.out (by decide)) (fun _ hk => hk.2) (.slice aN aC.length aQ)) (fun _ hk => trivial)⟩, ⟨by (with_reducible repeat (first | apply zC | apply zD | apply zA)); exact zB (zQ (p := ⟨x, 2, none⟩) (yA a6.out c.out (by decide)) (fun _ hk => hk.2) (.slice aN aC.length aQ)) (fun _ hk => trivial)⟩, ⟨by (with_reducible repeat (first | refine Zaj ?_ _ | refine Zad ?_ | refine Zaf ?_ _)); refine Za4 ?_ B.out _; exact bP a.out⟩, ⟨by (with_reducible repeat (first | refine Zaj ?_ _ | refine Zad ?_ | refine Zaf ?_ _)); refine Za4 ?_ E.out _; exact bP l.out⟩, ⟨by (with_reducible repeat (first | refine Zaj ?_ _ | refine Zad ?_ | refine Zaf ?_ _)); refine Za3 (cs := #[.int .i64 m, .slice P J.length T, y]) ?_ 2 _ rfl; exact bP c.out⟩, ⟨bW⟩⟩
def Zdm.f (k : Nat) (c : Int) (d : Int) (e : Int) (g : List (List Int)) : Option (Int × Int × Int × (List (List Int))) := (Za2.f k c d e g).bind fun b => ((Zah.f k b.1 b.2.1 b.2.2).bind fun a => (some (a.1, a.2.1, a.2.2.1, a.2.2.2.1)))
theorem Zdm.calls (k : Nat) (q : Int) (r : Int) (s : Int) (x : Option Addr) (y : Nat) (i : List (List Int)) (r1 : Int) (r2 : Int) (r3 : Int) (r4 : List (List Int)) (w : World) (P : Kd.C (Kd.slice 2 (Kd.int .i64)) w x i.length i) (T : i.length ≤ y) (h : Zdm.f k q r s i = some (r1, r2, r3, r4)) :
  Calls Tryd.prog 26 #[.agg #[.int .i64 q, .int .i64 r, .int .i64 s, .slice x i.length y]] w fun e w' => ∃ X : Value, e = .returned (.agg #[.int .i64 r1, .int .i64 r2, .int .i64 r3, X]) ∧ Kd.S (Kd.slice 2 (Kd.int .i64)) 22 w' w.heap.size (fun _ => True) X r4 ∧ Below w.heap.size w w' := by
 have aT := Tryd.underlying34
 have U := mA P
 have W := mA T
 clear P T
 have HB := mA (Below.refl w.heap.size w)
 unfold Zdm.f at h
 have H := h
 clear h
 replace H := bE H
 obtain ⟨⟨J, K, L⟩, A20, H⟩ := H
 try dsimp only at H
 have A2 := mA A20
 clear A20
 replace H := bE H
 obtain ⟨⟨j, m, u, z, aa⟩, A30, H⟩ := H
 try dsimp only at H
 have A3 := mA A30
 clear A30
 simp only [Option.some.injEq, Prod.mk.injEq] at H
 obtain ⟨rfl, rfl, rfl, rfl⟩ := H
 go_enter Tryd.func26, Tryd.ntmps26
 go_wp2_with (first | ((with_reducible refine Zap (N := 1) rfl ?_); refine boxS (N := 1) (cs := #[.int .i64 q, .int .i64 r, .int .i64 s, .slice x i.length y]) (t := 34) ?_; intro aI hg w4 hbox hb; have a := mA (hbox); have aJ := geW (w := w) hg; have aK := geW (w := w) hg; replace HB := mA (Zac (bW) hb); clear hb hbox hg) | ((with_reducible refine Zap (N := 2) rfl ?_); refine boxS (N := 2) (cs := #[.int .i64 0, .int .i64 0, .int .i64 0, .slice none 0 0]) (t := 34) ?_; intro l hg w5 hbox hb; have b := mA (hbox); have aL := geW (w := w) hg; have aM := geW (w := w) hg; replace HB := mA (Zac (bW) hb); have B := mA (neB hg a); have D := mA (neC hg a); replace a := mA (blkB a.out hb); clear hb hbox hg; have aU := B.out; have aV := D.out; obtain ⟨ax, ay, az, aA⟩ := Zbi a.out; obtain ⟨aB, aC, aD, aE⟩ := frz4 a.out) | ((with_reducible refine Zav (f := 47) rfl ?_); refine Zbo (some 7) Tryd.func47 #[.agg #[.int .i64 q, .int .i64 r, .int .i64 s, .slice x i.length y]] ?_; (with_reducible refine (Za2.calls k q r s _ _ i J K L _ ?side1 ?side2 A2.out).mono ?_); (case side1 => exact cP (zF U.out HB.out)); (case side2 => exact W.out); rintro e w8 ⟨aW, aX, rfl, v, Y, hb⟩; refine ⟨_, rfl, ?_⟩; have d := mA (xQ v (Zag (bW))); have g := mA (zP Y (Zag (bW))); replace a := mA (blkB a.out hb); replace b := mA (blkB b.out hb); replace HB := mA (Zac (bW) hb); (try clear hb); (try clear hb2); (try clear hk); (try clear hi); (try clear v); (try clear Y); obtain ⟨aF, aG, aH⟩ := xK d.out; subst aH; obtain ⟨ab, ac, ad⟩ := zJ g.out; subst ad) | ((with_reducible refine Zav (f := 46) rfl ?_); refine Zbo (some 8) Tryd.func46 #[.agg #[.int .i64 J, .slice aF K.length aG, .slice ab L.length ac]] ?_; (with_reducible refine (Zah.calls k J _ _ K _ _ L j m u z aa _ ?side1 ?side2 ?side3 ?side4 A3.out).mono ?_); (case side1 => exact cP ((yL d.out).2.2)); (case side2 => exact (yL d.out).2.1); (case side3 => exact cP ((zE g.out).2.2)); (case side4 => exact (zE g.out).2.1); rintro e aZ ⟨aY, rfl, v, hb⟩; refine ⟨_, rfl, ?_⟩; replace g := mA (zK (rP g.out) hb); have n := mA (xQ (xU v (Kd.S_lt (sP d.out))) (Zag (bW))); replace d := mA (xB (sP d.out) (Kd.S_base v) hb); replace a := mA (blkB a.out hb); replace b := mA (blkB b.out hb); replace HB := mA (Zac (bW) hb); (try clear hb); (try clear hb2); (try clear hk); (try clear hi); (try clear v)) | ((with_reducible refine Zap (N := 3) rfl ?_); refine boxS (N := 3) (cs := #[.int .i64 0, .int .i64 0, .int .i64 0, .slice none 0 0]) (t := 34) ?_; intro o hg a0 hbox hb; replace d := mA (yQ (sP d.out) hb); replace g := mA (zK (rP g.out) hb); replace n := mA (yQ (sP n.out) hb); have A := mA (hbox); have aN := geW (w := w) hg; have aO := geW (w := w) hg; replace HB := mA (Zac (bW) hb); have E := mA (neB hg a); have G := mA (neC hg a); replace a := mA (blkB a.out hb); have c := mA (neB hg b); have I := mA (neC hg b); replace b := mA (blkB b.out hb); clear hb hbox hg; have aP := G.out; have aQ := E.out; have aR := I.out; have aS := c.out; obtain ⟨af, ag, ah, ai⟩ := Zbi A.out; obtain ⟨aj, ak, al, am⟩ := frz4 A.out; obtain ⟨M, O, ae⟩ := xK n.out; subst ae; obtain ⟨an, ao, ap, aq⟩ := Zbi b.out; obtain ⟨ar, au, av, aw⟩ := frz4 b.out))
 refine bodyPost_ret (results_cell_row rfl _ _ l 34 #[.int .i64 j, .int .i64 m, .int .i64 u, .slice M z.length O] (0, 0) _ rfl (by (with_reducible repeat (first | refine Zaj ?_ _ | refine Zad ?_ | refine Zaf ?_ _)); refine Za3 (cs := #[.int .i64 j, .int .i64 m, .int .i64 u, .slice none 0 0]) ?_ 3 _ rfl; (with_reducible repeat (first | refine Zaj ?_ _ | refine Zad ?_ | refine Zaf ?_ _)); refine Za3 (cs := #[.int .i64 j, .int .i64 m, .int .i64 0, .slice none 0 0]) ?_ 2 _ rfl; (with_reducible repeat (first | refine Zaj ?_ _ | refine Zad ?_ | refine Zaf ?_ _)); refine Za3 (cs := #[.int .i64 j, .int .i64 0, .int .i64 0, .slice none 0 0]) ?_ 1 _ rfl; (with_reducible repeat (first | refine Zaj ?_ _ | refine Zad ?_ | refine Zaf ?_ _)); refine Za3 (cs := #[.int .i64 0, .int .i64 0, .int .i64 0, .slice none 0 0]) ?_ 0 _ rfl; (with_reducible repeat (first | refine Zaj ?_ _ | refine Zad ?_ | refine Zaf ?_ _)); refine Za4 ?_ c.out _; (with_reducible repeat (first | refine Zaj ?_ _ | refine Zad ?_ | refine Zaf ?_ _)); refine Za4 ?_ c.out _; (with_reducible repeat (first | refine Zaj ?_ _ | refine Zad ?_ | refine Zaf ?_ _)); refine Za4 ?_ c.out _; (with_reducible repeat (first | refine Zaj ?_ _ | refine Zad ?_ | refine Zaf ?_ _)); refine Za4 ?_ c.out _; exact bP b.out) Tryd.underlying34 rfl (by kernel_rfl)) rfl ?_
 exact ⟨_, eW, by (with_reducible repeat (first | apply yD | apply yE | apply zW)); exact yC (zZ (p := ⟨l, 3, none⟩) (zZ (p := ⟨l, 2, none⟩) (zZ (p := ⟨l, 1, none⟩) (zZ (p := ⟨l, 0, none⟩) (zZ (p := ⟨o, 3, none⟩) (zZ (p := ⟨o, 2, none⟩) (zZ (p := ⟨o, 1, none⟩) (zZ (p := ⟨o, 0, none⟩) (yZ (yZ n.out A.out (by decide)) b.out (by decide)) (fun _ hk => hk.1.2) (.int .i64 j)) (fun _ hk => hk.1.2) (.int .i64 m)) (fun _ hk => hk.1.2) (.int .i64 u)) (fun _ hk => hk.1.2) (.slice M z.length O)) (fun _ hk => hk.2) (.int .i64 j)) (fun _ hk => hk.2) (.int .i64 m)) (fun _ hk => hk.2) (.int .i64 u)) (fun _ hk => hk.2) (.slice M z.length O)) (fun _ hk => trivial), bW⟩
def Zdk.f (c : Int) (a : List Int) (a1 : Int) (a2 : Int) : Option (Bool) := if 0 ≤ a1 then (if a1 < (a.length : Int) then ((Zbc.f (rd a a1) a2).bind fun b => (some b)) else (none)) else (none)
theorem Zdk.calls (c : Int) (d : Option Addr) (g : Nat) (a : List Int) (a1 : Int) (a2 : Int) (r : Bool) (w : World) (k : Kd.C (Kd.int .i64) w d a.length a) (l : a.length ≤ g) (h : Zdk.f c a a1 a2 = some r) :
  Calls Tryd.prog 28 #[.agg #[.int .i64 c, .slice d a.length g], .int .i64 a1, .int .i64 a2] w fun e w' => e = .returned (.bool r) ∧ Below w.heap.size w w' := by
 have E := Tryd.underlying32
 have n := mA k
 have y := mA l
 clear k l
 have HB := mA (Below.refl w.heap.size w)
 unfold Zdk.f at h
 have H := h
 clear h
 by_cases c4 : 0 ≤ a1; rotate_left
 ·rw [if_neg c4] at H
  exact absurd H (by simp)
 rw [if_pos c4] at H
 have G := dT c4
 clear c4
 by_cases c5 : a1 < (a.length : Int); rotate_left
 ·rw [if_neg c5] at H
  exact absurd H (by simp)
 rw [if_pos c5] at H
 have I := dT c5
 clear c5
 replace H := bE H
 obtain ⟨p, o, H⟩ := H
 have A6 := mA o
 clear o
 obtain rfl := oI H
 go_enter Tryd.func28, Tryd.ntmps28
 go_wp2_with (first | ((with_reducible refine Zap (N := 3) rfl ?_); refine boxS (N := 3) (cs := #[.int .i64 c, .slice d a.length g]) (t := 32) ?_; intro z hg w7 hbox hb; have m := mA (hbox); have A := geW (w := w) hg; have B := geW (w := w) hg; replace HB := mA (Zac (bW) hb); clear hb hbox hg; obtain ⟨s, u⟩ := Zc6 m.out; obtain ⟨v, x⟩ := frz2 m.out; have i : 0 ≤ (a1 : Int) := ofD; have j : a1 < (a.length : Int) := ofD; obtain ⟨D, q, b⟩ := zI n.out a1 i j; cases q; replace b := (HB.out.cell (wB w b)).trans b; replace i := eq_true i; replace j := eq_true j) | ((with_reducible refine Zav (f := 49) rfl ?_); refine Zbo (some 13) Tryd.func49 #[.int .i64 (rd a a1), .int .i64 a2] ?_; (with_reducible refine (Zbc.calls (rd a a1) a2 p _ A6.out).mono ?_); rintro e w' ⟨rfl, ⟨nd, rfl⟩⟩; refine ⟨_, rfl, ?_⟩))
 go_ret
 exact ⟨eW, bW⟩
end Go.Proofs.YtgindgodfcfgkaaDoor.P
end M0
