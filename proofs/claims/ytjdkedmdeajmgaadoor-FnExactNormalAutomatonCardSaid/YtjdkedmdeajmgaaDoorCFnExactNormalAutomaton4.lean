import Derived.Test.YtjdkedmdeajmgaaDoorCFnExactNormalAutomaton3
section M0
namespace Go.Proofs.YtjdkedmdeajmgaaDoor.P
open Go.RowKit Go.Proofs.YtjdkedmdeajmgaaDoor.Sh Go.Proofs.YtjdkedmdeajmgaaDoorW.PrintWords Go.Proofs.YtjdkedmdeajmgaaDoorW.PrintLast Go.Proofs.YtjdkedmdeajmgaaDoorW.PrintMore
open Kd
attribute [local go_sem] Zcf Zch Zcv Zcu Zb6 Zb7 Zcg Zce   -- for this text's walks alone
set_option linter.unusedVariables false
set_option linter.unusedSimpArgs false
mutual
def Zak.l0 : Nat → List Int → List Int → Int → Int → List Int → Int → Int → Int → List (List Int) → Int → List (List Int) → List Bool → Option (Int × (List (List Int)) × List Bool × List Int)
 | 0, _, _, _, _, _, _, _, _, _, _, _, _ => none
 | k + 1, x7, x8, x9, d, e, g, h, i, j, a, b, c => if x9 < (x7.length : Int) then (Zak.l1 k x7 x8 x9 (([] : List Int)) 0 d e g h i j a b c) else (some (a, b, c, x8))
def Zak.l1 : Nat → List Int → List Int → Int → List Int → Int → Int → List Int → Int → Int → Int → List (List Int) → Int → List (List Int) → List Bool → Option (Int × (List (List Int)) × List Bool × List Int)
 | 0, _, _, _, _, _, _, _, _, _, _, _, _, _, _ => none
 | k + 1, x7, x8, x9, m, g, h, i, b, j, c, a, l, d, e => if g < b then (if 0 ≤ x9 then (if x9 < (x8.length : Int) then (if 0 ≤ (rd x8 x9) then (if (rd x8 x9) < (a.length : Int) then (if 0 ≤ g then (if g < ((Zam a (rd x8 x9)).length : Int) then (if (rd (Zam a (rd x8 x9)) g) < 0 then (Zak.j2 k x7 x8 x9 m g (rd (Zam a (rd x8 x9)) g) true h i b j c a l d e) else (if x9 < (x7.length : Int) then ((Za5.f (rd x7 x9) g).bind fun n => (Zak.j2 k x7 x8 x9 m g (rd (Zam a (rd x8 x9)) g) n h i b j c a l d e)) else (none))) else (none)) else (none)) else (none)) else (none)) else (none)) else (none)) else (if d.length < 5864062014805 then (if 0 ≤ x9 then (if x9 < (x8.length : Int) then ((Za5.f c (rd x8 x9)).bind fun o => (if e.length < 140737488355328 then (Zak.l0 k x7 x8 (wrap64 (x9 + 1)) h i b j c a l (d ++ [m]) (e ++ [o])) else (none))) else (none)) else (none)) else (none))
def Zak.j2 : Nat → List Int → List Int → Int → List Int → Int → Int → Bool → Int → List Int → Int → Int → Int → List (List Int) → Int → List (List Int) → List Bool → Option (Int × (List (List Int)) × List Bool × List Int)
 | 0, _, _, _, _, _, _, _, _, _, _, _, _, _, _, _, _ => none
 | k + 1, x7, x8, x9, l, m, o, p, a, b, c, d, e, g, h, i, j => if p = true then (if l.length < 17592186044416 then (Zak.l1 k x7 x8 x9 (l ++ [(-1)]) (wrap64 (m + 1)) a b c d e g h i j) else (none)) else (if 0 ≤ x9 then (if x9 < (x7.length : Int) then ((Zbp.f k a b (rd x7 x9) m).bind fun n => (Zak.l2 k x7 x8 x9 l m o n 0 a b c d e g h i j)) else (none)) else (none))
def Zak.l2 : Nat → List Int → List Int → Int → List Int → Int → Int → Int → Int → Int → List Int → Int → Int → Int → List (List Int) → Int → List (List Int) → List Bool → Option (Int × (List (List Int)) × List Bool × List Int)
 | 0, _, _, _, _, _, _, _, _, _, _, _, _, _, _, _, _, _ => none
 | k + 1, x7, x8, x9, m, n, o, p, l, a, b, c, d, e, g, h, i, j => if l < (x7.length : Int) then (if 0 ≤ l then (if (rd x7 l) = p then (if l < (x8.length : Int) then (if (rd x8 l) = o then (if l = (x7.length : Int) then (if x7.length < 17592186044416 then (if x8.length < 17592186044416 then (if m.length < 17592186044416 then (Zak.l1 k (x7 ++ [p]) (x8 ++ [o]) x9 (m ++ [l]) (wrap64 (n + 1)) a b c d e g h i j) else (none)) else (none)) else (none)) else (if m.length < 17592186044416 then (Zak.l1 k x7 x8 x9 (m ++ [l]) (wrap64 (n + 1)) a b c d e g h i j) else (none))) else (Zak.l2 k x7 x8 x9 m n o p (wrap64 (l + 1)) a b c d e g h i j)) else (none)) else (Zak.l2 k x7 x8 x9 m n o p (wrap64 (l + 1)) a b c d e g h i j)) else (none)) else (if l = (x7.length : Int) then (if x7.length < 17592186044416 then (if x8.length < 17592186044416 then (if m.length < 17592186044416 then (Zak.l1 k (x7 ++ [p]) (x8 ++ [o]) x9 (m ++ [l]) (wrap64 (n + 1)) a b c d e g h i j) else (none)) else (none)) else (none)) else (if m.length < 17592186044416 then (Zak.l1 k x7 x8 x9 (m ++ [l]) (wrap64 (n + 1)) a b c d e g h i j) else (none)))
end
def Zak.f (k : Nat) (c : Int) (d : List Int) (a : Int) (b : Int) (e : Int) (g : List (List Int)) : Option (Int × (List (List Int)) × List Bool × List Int) := Zak.l0 k (([0] : List Int)) (([b] : List Int)) 0 c d a b e g a ([] : List (List Int)) ([] : List Bool)
def Zak.T2 : Bool × List (List Nat × List Nat) := (true, [([], []), ([], []), ([1], [1]), ([2], [2]), ([0, 0], [0]), ([3, 4, 0, 1, 2, 3, 4], [3])])
def Zak.B2 : List Nat := [0, 0, 2, 6, 1, 31]
theorem Zak.tab2 : rtab .any (opsOf Tryd.f56 2) = Zak.T2 := by kernel_rfl
theorem Zak.bits2 : Zcb Zak.T2.2 Zak.B2 = true := by kernel_rfl
def Zak.T10 : Bool × List (List Nat × List Nat) := (true, [([], []), ([0], [0]), ([], []), ([], []), ([2, 3], [2, 3]), ([4], [4]), ([1, 5], [1, 5]), ([6], [6]), ([], []), ([7, 8], [7, 8]), ([9], [9]), ([10, 0, 1, 2, 3, 4, 5, 6, 7, 8, 9, 10], [10])])
def Zak.B10 : List Nat := [0, 1, 0, 0, 12, 28, 63, 127, 0, 511, 1023, 2047]
theorem Zak.tab10 : rtab .any (opsOf Tryd.f56 10) = Zak.T10 := by kernel_rfl
theorem Zak.bits10 : Zcb Zak.T10.2 Zak.B10 = true := by kernel_rfl
def Zak.T13 : Bool × List (List Nat × List Nat) := (true, [([], []), ([], []), ([], []), ([1, 2], [1, 2]), ([3], [3]), ([], []), ([0, 4, 5], [0, 4, 5]), ([6, 6, 0, 1, 2, 3, 4, 5, 6], [6])])
def Zak.B13 : List Nat := [0, 0, 0, 6, 14, 0, 63, 127]
theorem Zak.tab13 : rtab .any (opsOf Tryd.f56 13) = Zak.T13 := by kernel_rfl
theorem Zak.bits13 : Zcb Zak.T13.2 Zak.B13 = true := by kernel_rfl
def Zak.T22 : Bool × List (List Nat × List Nat) := (true, [([], []), ([0], [0]), ([], []), ([2], [2]), ([], []), ([], []), ([4, 5], [4, 5]), ([6], [6]), ([3, 7], [3, 7]), ([8], [8]), ([1, 9, 8], [1, 9]), ([0, 1, 2, 3, 4, 5, 6, 7, 8, 9, 10], []), ([11, 10, 10, 0, 1, 2, 3, 4, 5, 6, 7, 8, 9, 10], [10, 11])])
def Zak.B22 : List Nat := [0, 1, 0, 4, 0, 0, 48, 112, 252, 508, 1023, 2047, 4095]
theorem Zak.tab22 : rtab .any (opsOf Tryd.f56 22) = Zak.T22 := by kernel_rfl
theorem Zak.bits22 : Zcb Zak.T22.2 Zak.B22 = true := by kernel_rfl
set_option maxHeartbeats 8000000 in
set_option maxRecDepth 100000 in
theorem Zak.calls (k : Nat) (ag : Int) (av : Option Addr) (aw : Nat) (ad : List Int) (y : Int) (W : Int) (aa : Int) (aN : Option Addr) (ao : Nat) (G : List (List Int)) (r1 : Int) (r2 : List (List Int)) (r3 : List Bool) (r4 : List Int) (w : World) (cF : Kd.C (Kd.int .i64) w av ad.length ad) (cG : ad.length ≤ aw) (cH : Kd.C (Kd.slice 2 (Kd.int .i64)) w aN G.length G) (cI : G.length ≤ ao) (h : Zak.f k ag ad y W aa G = some (r1, r2, r3, r4)) :
  Calls Tryd.prog 56 #[.agg #[.int .i64 ag, .slice av ad.length aw], .agg #[.int .i64 y, .int .i64 W, .int .i64 aa, .slice aN G.length ao]] w fun e w' => ∃ eL eM dG : Value, e = .returned (.tuple #[.agg #[.int .i64 r1, eL, eM], dG]) ∧ Kd.S (Kd.slice 2 (Kd.int .i64)) 22 w' w.heap.size (fun k_ => some k_ ≠ (dG : Value).ownBlock) eL r2 ∧ Kd.R Kd.bool 4 w' w.heap.size (fun _ => True) eM r3 ∧ Kd.R (Kd.int .i64) 2 w' w.heap.size (fun _ => True) dG r4 ∧ Below w.heap.size w w' := by
 have gP := Tryd.underlying30
 have gQ := Tryd.underlying39
 have gR := Tryd.underlying66
 have d5 := mA cF
 have d6 := mA cG
 clear cF cG
 have d7 := mA cH
 have f3 := mA cI
 clear cH cI
 have HB := mA (Below.refl w.heap.size w)
 unfold Zak.f at h
 have H := h
 clear h
 obtain ⟨a8, cc⟩ := nm ((([0] : List Int)) : List Int)
 rw [← cc.out] at H
 obtain ⟨a9, cd⟩ := nm ((([W] : List Int)) : List Int)
 rw [← cd.out] at H
 have H' := mA H
 clear H
 go_enter Tryd.func56, Tryd.ntmps56
 try go_wp2_with (first | ((with_reducible refine Zat (N := 2) rfl ?_); refine boxS (N := 2) (cs := #[.int .i64 ag, .slice av ad.length aw]) (t := 30) ?_; intro ap hg w3 hbox hb; have l := mA (hbox); have f4 := geW (w := w) hg; have f5 := geW (w := w) hg; replace HB := mA (Zaf (bW) hb); clear hb hbox hg) | ((with_reducible refine Zat (N := 3) rfl ?_); refine boxS (N := 3) (cs := #[.int .i64 y, .int .i64 W, .int .i64 aa, .slice aN G.length ao]) (t := 39) ?_; intro J hg w4 hbox hb; have c := mA (hbox); have f6 := geW (w := w) hg; have f7 := geW (w := w) hg; replace HB := mA (Zaf (bW) hb); have bm := mA (neB hg l); have bn := mA (neC hg l); replace l := mA (blkB l.out hb); clear hb hbox hg) | ((with_reducible refine Zat (N := 4) rfl ?_); refine boxS (N := 4) (cs := #[.int .i64 0, .slice none 0 0, .slice none 0 0]) (t := 66) ?_; intro X hg w5 hbox hb; have m := mA (hbox); have f8 := geW (w := w) hg; have f9 := geW (w := w) hg; replace HB := mA (Zaf (bW) hb); have ct := mA (neB hg l); have cu := mA (neC hg l); replace l := mA (blkB l.out hb); have a3 := mA (neB hg c); have a4 := mA (neC hg c); replace c := mA (blkB c.out hb); clear hb hbox hg; have gS := bn.out; have gT := bm.out; have gU := a3.out; have gV := a4.out; obtain ⟨dH, dI, dJ, dK⟩ := Zbl c.out; obtain ⟨dL, dM, dN, dO⟩ := frz4 c.out) | ((with_reducible refine Zat (N := 6) rfl ?_); refine boxS (N := 6) (cs := #[.int .i64 0, .slice none 0 0, .slice none 0 0]) (t := 66) ?_; intro u hg w9 hbox hb; have d := mA (hbox); have ga := geW (w := w) hg; have gb := geW (w := w) hg; replace HB := mA (Zaf (bW) hb); have ay := mA (neB hg l); have a5 := mA (neC hg l); replace l := mA (blkB l.out hb); have ar := mA (neB hg c); have aW := mA (neC hg c); replace c := mA (blkB c.out hb); have az := mA (neB hg m); have a6 := mA (neC hg m); replace m := mA (blkB m.out hb); clear hb hbox hg; have gc := a5.out; have gf := ay.out; have gg := aW.out; have gh := ar.out; have gi := a6.out; have gj := az.out; obtain ⟨dl, dm, dn⟩ := cells3 d.out; obtain ⟨dp, dq, dr⟩ := frz3 d.out))
 have bb : Zac ((((w9.setCell ⟨u, 0, none⟩ (.int .i64 y)).setCell ⟨u, 1, none⟩ (.slice none 0 0)).setCell ⟨u, 2, none⟩ (.slice none 0 0)).heap[ap]? = some (.cells #[.int .i64 ag, .slice av ad.length aw] 30 (0, 0))) := ⟨by (with_reducible repeat (first | refine Zad ?_ _ | refine Zaa ?_ | refine Zab ?_ _)); refine Zao ?_ ay.out _; (with_reducible repeat (first | refine Zad ?_ _ | refine Zaa ?_ | refine Zab ?_ _)); refine Zao ?_ ay.out _; (with_reducible repeat (first | refine Zad ?_ _ | refine Zaa ?_ | refine Zab ?_ _)); refine Zao ?_ ay.out _; exact bP l.out⟩
 have bd : Zac ((((w9.setCell ⟨u, 0, none⟩ (.int .i64 y)).setCell ⟨u, 1, none⟩ (.slice none 0 0)).setCell ⟨u, 2, none⟩ (.slice none 0 0)).heap[J]? = some (.cells #[.int .i64 y, .int .i64 W, .int .i64 aa, .slice aN G.length ao] 39 (0, 0))) := ⟨by (with_reducible repeat (first | refine Zad ?_ _ | refine Zaa ?_ | refine Zab ?_ _)); refine Zao ?_ ar.out _; (with_reducible repeat (first | refine Zad ?_ _ | refine Zaa ?_ | refine Zab ?_ _)); refine Zao ?_ ar.out _; (with_reducible repeat (first | refine Zad ?_ _ | refine Zaa ?_ | refine Zab ?_ _)); refine Zao ?_ ar.out _; exact bP c.out⟩
 have bf : Zac ((((w9.setCell ⟨u, 0, none⟩ (.int .i64 y)).setCell ⟨u, 1, none⟩ (.slice none 0 0)).setCell ⟨u, 2, none⟩ (.slice none 0 0)).heap[X]? = some (.cells #[.int .i64 0, .slice none 0 0, .slice none 0 0] 66 (0, 0))) := ⟨by (with_reducible repeat (first | refine Zad ?_ _ | refine Zaa ?_ | refine Zab ?_ _)); refine Zao ?_ az.out _; (with_reducible repeat (first | refine Zad ?_ _ | refine Zaa ?_ | refine Zab ?_ _)); refine Zao ?_ az.out _; (with_reducible repeat (first | refine Zad ?_ _ | refine Zaa ?_ | refine Zab ?_ _)); refine Zao ?_ az.out _; exact bP m.out⟩
 have bg : Zac ((((w9.setCell ⟨u, 0, none⟩ (.int .i64 y)).setCell ⟨u, 1, none⟩ (.slice none 0 0)).setCell ⟨u, 2, none⟩ (.slice none 0 0)).heap[u]? = some (.cells #[.int .i64 y, .slice none 0 0, .slice none 0 0] 66 (0, 0))) := ⟨by (with_reducible repeat (first | refine Zad ?_ _ | refine Zaa ?_ | refine Zab ?_ _)); refine Zau (cs := #[.int .i64 y, .slice none 0 0, .slice none 0 0]) ?_ 2 _ rfl; (with_reducible repeat (first | refine Zad ?_ _ | refine Zaa ?_ | refine Zab ?_ _)); refine Zau (cs := #[.int .i64 y, .slice none 0 0, .slice none 0 0]) ?_ 1 _ rfl; (with_reducible repeat (first | refine Zad ?_ _ | refine Zaa ?_ | refine Zab ?_ _)); refine Zau (cs := #[.int .i64 0, .slice none 0 0, .slice none 0 0]) ?_ 0 _ rfl; exact bP d.out⟩
 have bh : Zac (Below w.heap.size w (((w9.setCell ⟨u, 0, none⟩ (.int .i64 y)).setCell ⟨u, 1, none⟩ (.slice none 0 0)).setCell ⟨u, 2, none⟩ (.slice none 0 0))) := ⟨bW⟩
 (try clear l)
 (try clear c)
 (try clear m)
 (try clear d)
 (try clear HB)
 generalize (((w9.setCell ⟨u, 0, none⟩ (.int .i64 y)).setCell ⟨u, 1, none⟩ (.slice none 0 0)).setCell ⟨u, 2, none⟩ (.slice none 0 0)) = fN at bb bd bf bg bh ⊢
 have l := bb; have c := bd; have m := bf; have d := bg; have HB := bh; clear bb bd bf bg bh
 replace l := mA (Zaa l.out)
 replace c := mA (Zaa c.out)
 replace m := mA (Zaa m.out)
 replace d := mA (Zaa d.out)
 replace HB := mA (Za1 HB.out)
 refine Zck (n := 6) (S := fun w' => True) (ds := []) #[false, false, false, false, false, false] (by kernel_rfl) rfl rfl trivial (fun hHeld => ?_); refine Zb5 Zak.tab2 Zak.bits2 (fun HT_ HW_ => ?_)
 generalize fN.drew = w15 at l c m d HB hHeld ⊢
 refine Zas (i := 1) (N := some 19) (Zap HT_.out (by kernel_rfl)) ?_
 refine inv_at [0, 2, 3, 4, 5] (fun fO b a w' => ∃ (ah : Value) (ai : Value) (aJ : Value) (aK : Value), a = Zde fO b [(0, 18, ah), (2, 20, .int .i64 W), (3, 21, ai), (4, 7, aJ), (5, 8, aK)] ∧ (w'.heap[ap]? = some (.cells #[.int .i64 ag, .slice av ad.length aw] 30 (0, 0))) ∧ (w'.heap[J]? = some (.cells #[.int .i64 y, .int .i64 W, .int .i64 aa, .slice aN G.length ao] 39 (0, 0))) ∧ (w'.heap[X]? = some (.cells #[.int .i64 0, .slice none 0 0, .slice none 0 0] 66 (0, 0))) ∧ (w'.heap[u]? = some (.cells #[.int .i64 y, .slice none 0 0, .slice none 0 0] 66 (0, 0))) ∧ (Below w.heap.size w w') ∧ (b 0 = true → b 3 = true → ∀ k_ : Nat, (ah : Value).ownBlock = some k_ → (ai : Value).ownBlock = some k_ → False) ∧ (b 0 = true → Kd.R (Kd.int .i64) 2 w' w.heap.size (fun _ => True) ah a8) ∧ (b 3 = true → Kd.R (Kd.int .i64) 2 w' w.heap.size (fun _ => True) ai a9) ∧ (b 4 = true → (aJ : Value) = ah) ∧ (b 5 = true → (aK : Value) = ai)) HT_.out HW_.out (by kernel_rfl) (by kernel_rfl) ?_ ?_ ?_
 ·exact ⟨.bool false, .bool false, .bool false, .bool false, by simp only [Zde, Bool.false_eq_true, if_false], l.out, c.out, m.out, d.out, HB.out, fun h_ => absurd h_ (by decide), fun h_ => absurd h_ (by decide), fun h_ => absurd h_ (by decide), fun h_ => absurd h_ (by decide), fun h_ => absurd h_ (by decide)⟩
 ·skip
  clear l c m d HB
  refine steps_cons ?_ ?_
  ·rintro b a w' ⟨ah, ai, aJ, aK, ha, aj, ak, al, am, Q_HB, af, an, au, aY, br⟩ hb_ hon hoff
   refine ⟨_, rfl, fun K hK => ?_⟩
   replace ha := mA ha
   have l := mA aj
   have c := mA ak
   have m := mA al
   have d := mA am
   have HB := mA Q_HB
   refine xA (Kd.int .i64) _ 2 ?hg (N := 18) ?hd (xs := ([0] : List Int)) (inner := [.int .i64 0]) (ok := fun _ => True) (okp := fun _ => True) ?hr ?hp (fun _ hk => hk) trivial (Below.refl _ _) (Nat.le_refl _) (by simp) ?_; (case hd => rfl); (case hg => rfl); (case hr => first | (go_simp; done) | (go_simp; rfl)); (case hp => exact (Reps.one (show Kd.M (Kd.int .i64) _ _ _ 0 [.int .i64 0] from rfl) (Reps.none _ _)))
   intro ah dP aE hb hg_ hnew_
   clear hg_ hnew_
   (first | rw [← cc.out] at aE | (simp only [Int.reduceToNat] at aE; rw [← cc.out] at aE))
   have bb := mA (zS aE (Zaj (bW)))
   have bd := mA (blkB l.out hb)
   have bf := mA (blkB c.out hb)
   have bg := mA (blkB m.out hb)
   have bh := mA (blkB d.out hb)
   have bv := mA (Zaf (bW) hb)
   have dt := fun (aM : b 3 = true) => (show Kd.R (Kd.int .i64) 2 dP w.heap.size (fun _ => True) ai a9 from by first | exact (zZ (rP (au aM)) (zU aE) hb) | exact zB (zZ (rP (au aM)) (zU aE) hb) (fun _ h_ => by first | trivial | exact h_ | exact h_.1))
   have ba := fun (aM : up b 0 0 = true) (cJ : up b 0 3 = true) => (show ∀ k_ : Nat, (ah : Value).ownBlock = some k_ → (ai : Value).ownBlock = some k_ → False from fun k_ b1 b2 => (by have h_ := ((zZ (rP (au cJ)) (zU aE) hb)).1 k_ b2; first | exact h_.2 b1.symm | exact h_ b1.symm | exact h_.1.2 b1.symm | exact h_.2.2 b1.symm))
   clear l c m d HB; have ab := bb; have l := bd; have c := bf; have m := bg; have d := bh; have HB := bv; clear bb bd bf bg bh bv hb aE
   refine hK.out _ _ ⟨ah, ai, aJ, aK, (by rw [ha.out]; exact putSel_upk 0 hb_ rfl rfl rfl), (bP l.out), (bP c.out), (bP m.out), (bP d.out), (bW), ba, fun _ => (rP ab.out), dt, fun aM => absurd ((hoff 4 (by kernel_rfl)).symm.trans aM) (by decide), fun aM => absurd ((hoff 5 (by kernel_rfl)).symm.trans aM) (by decide)⟩
  refine steps_cons ?_ ?_
  ·rintro b a w' ⟨ah, ai, aJ, aK, ha, aj, ak, al, am, Q_HB, af, an, au, aY, br⟩ hb_ hon hoff
   refine ⟨_, rfl, fun K hK => ?_⟩
   have hs : a.tmps[19]? = some (.pointer (some ⟨J, 1, none⟩)) := by rw [ha]; exact (putSel_off rfl).trans rfl
   replace ha := mA ha
   have l := mA aj
   have c := mA ak
   have m := mA al
   have d := mA am
   have HB := mA Q_HB
   have gW : w'.cell? ⟨J, 0, none⟩ = some (.int .i64 y) := bc c 0
   have gX : w'.cell? ⟨J, 1, none⟩ = some (.int .i64 W) := bc c 1
   have gY : w'.cell? ⟨J, 2, none⟩ = some (.int .i64 aa) := bc c 2
   have gZ : w'.cell? ⟨J, 3, none⟩ = some (.slice aN G.length ao) := bc c 3
   refine value_ (w1 := w') (v := .int .i64 W) (by rfl) rfl ?_ ?_
   ·go_simp
    (try simp only [Zcq])
    try rfl
   refine hK.out _ _ ⟨ah, ai, aJ, aK, (by rw [ha.out]; exact putSel_upk 1 hb_ rfl rfl rfl), aj, ak, al, am, Q_HB, fun _ cJ => absurd ((hoff 3 (by kernel_rfl)).symm.trans cJ) (by decide), an, fun aM => absurd ((hoff 3 (by kernel_rfl)).symm.trans aM) (by decide), aY, fun aM => absurd ((hoff 5 (by kernel_rfl)).symm.trans aM) (by decide)⟩
  refine steps_cons ?_ ?_
  ·rintro b a w' ⟨ah, ai, aJ, aK, ha, aj, ak, al, am, Q_HB, af, an, au, aY, br⟩ hb_ hon hoff
   refine ⟨_, rfl, fun K hK => ?_⟩
   have ht : a.tmps[20]? = some (.int .i64 W) := by rw [ha]; exact putSel_on (e := (2, 20, .int .i64 W)) 1 rfl rfl (hon 2 (by kernel_rfl)) rfl
   replace ha := mA ha
   have l := mA aj
   have c := mA ak
   have m := mA al
   have d := mA am
   have HB := mA Q_HB
   refine xA (Kd.int .i64) _ 2 ?hg (N := 21) ?hd (xs := ([W] : List Int)) (inner := [.int .i64 W]) (ok := fun _ => True) (okp := fun _ => True) ?hr ?hp (fun _ hk => hk) trivial (Below.refl _ _) (Nat.le_refl _) (by simp) ?_; (case hd => rfl); (case hg => rfl); (case hr => first | (go_simp; done) | (go_simp; rfl)); (case hp => exact (Reps.one (show Kd.M (Kd.int .i64) _ _ _ W [.int .i64 W] from rfl) (Reps.none _ _)))
   intro ai dP aE hb hg_ hnew_
   clear hg_ hnew_
   (first | rw [← cd.out] at aE | (simp only [Int.reduceToNat] at aE; rw [← cd.out] at aE))
   have bb := mA (zS aE (Zaj (bW)))
   have bd := mA (blkB l.out hb)
   have bf := mA (blkB c.out hb)
   have bg := mA (blkB m.out hb)
   have bh := mA (blkB d.out hb)
   have bv := mA (Zaf (bW) hb)
   have du := fun (aM : b 0 = true) => (show Kd.R (Kd.int .i64) 2 dP w.heap.size (fun _ => True) ah a8 from by first | exact (zZ (rP (an aM)) (zU aE) hb) | exact zB (zZ (rP (an aM)) (zU aE) hb) (fun _ h_ => by first | trivial | exact h_ | exact h_.1))
   have ba := fun (aM : up b 3 0 = true) (cJ : up b 3 3 = true) => (show ∀ k_ : Nat, (ah : Value).ownBlock = some k_ → (ai : Value).ownBlock = some k_ → False from fun k_ b1 b2 => (by have h_ := ((zZ (rP (an aM)) (zU aE) hb)).1 k_ b1; first | exact h_.2 b2.symm | exact h_ b2.symm | exact h_.1.2 b2.symm | exact h_.2.2 b2.symm))
   clear l c m d HB; have ae := bb; have l := bd; have c := bf; have m := bg; have d := bh; have HB := bv; clear bb bd bf bg bh bv hb aE
   refine hK.out _ _ ⟨ah, ai, aJ, aK, (by rw [ha.out]; exact putSel_upk 2 hb_ rfl rfl rfl), (bP l.out), (bP c.out), (bP m.out), (bP d.out), (bW), ba, du, fun _ => (rP ae.out), aY, fun aM => absurd ((hoff 5 (by kernel_rfl)).symm.trans aM) (by decide)⟩
  refine steps_cons ?_ ?_
  ·rintro b a w' ⟨ah, ai, aJ, aK, ha, aj, ak, al, am, Q_HB, af, an, au, aY, br⟩ hb_ hon hoff
   refine ⟨_, rfl, fun K hK => ?_⟩
   have hu : a.tmps[18]? = some (ah) := by rw [ha]; exact putSel_on (e := (0, 18, ah)) 0 rfl rfl (hon 0 (by kernel_rfl)) rfl
   replace ha := mA ha
   have l := mA aj
   have c := mA ak
   have m := mA al
   have d := mA am
   have HB := mA Q_HB
   have ab := mA (an (hon 0 (by kernel_rfl)))
   refine value_ (w1 := w') (v := ah) (by rfl) rfl ?_ ?_
   ·go_simp
    (try simp only [Zcq])
    try rfl
   refine hK.out _ _ ⟨ah, ai, (ah), aK, (by rw [ha.out]; exact putSel_upk 3 hb_ rfl rfl rfl), aj, ak, al, am, Q_HB, af, an, au, fun _ => rfl, fun aM => absurd ((hoff 5 (by kernel_rfl)).symm.trans aM) (by decide)⟩
  refine steps_cons ?_ ?_
  ·rintro b a w' ⟨ah, ai, aJ, aK, ha, aj, ak, al, am, Q_HB, af, an, au, aY, br⟩ hb_ hon hoff
   refine ⟨_, rfl, fun K hK => ?_⟩
   have hv : a.tmps[21]? = some (ai) := by rw [ha]; exact putSel_on (e := (3, 21, ai)) 2 rfl rfl (hon 3 (by kernel_rfl)) rfl
   replace ha := mA ha
   have l := mA aj
   have c := mA ak
   have m := mA al
   have d := mA am
   have HB := mA Q_HB
   have B := mA (af (hon 0 (by kernel_rfl)) (hon 3 (by kernel_rfl)))
   have ab := mA (an (hon 0 (by kernel_rfl)))
   have ae := mA (au (hon 3 (by kernel_rfl)))
   refine value_ (w1 := w') (v := ai) (by rfl) rfl ?_ ?_
   ·go_simp
    (try simp only [Zcq])
    try rfl
   refine hK.out _ _ ⟨ah, ai, aJ, (ai), (by rw [ha.out]; exact putSel_upk 4 hb_ rfl rfl rfl), aj, ak, al, am, Q_HB, af, an, au, aY, fun _ => rfl⟩
  exact steps_nil
 rintro b a a7 hall ⟨ah, ai, aJ, aK, ha, aj, ak, al, am, Q_HB, af, an, au, aY, br⟩
 clear l c m d HB
 have ce := hall 0 (by kernel_rfl)
 have dQ := hall 2 (by kernel_rfl)
 have cf := hall 3 (by kernel_rfl)
 have cv := hall 4 (by kernel_rfl)
 have cw := hall 5 (by kernel_rfl)
 subst ha
 obtain rfl := aY cv
 obtain rfl := br cw
 simp only [Zde, ce, dQ, cf, cv, cw, if_true, Act.put, List.setIfInBounds_toArray, List.set_cons_zero, List.set_cons_succ]
 have l := mA aj
 clear aj
 have c := mA ak
 clear ak
 have m := mA al
 clear al
 have d := mA am
 clear am
 have HB := mA Q_HB
 clear Q_HB
 have B := mA (af ce cf)
 clear af
 have ab := mA (an ce)
 clear an
 have ae := mA (au cf)
 clear au hall ce dQ cf cv cw
 first | (replace ab := mA (show Kd.R (Kd.int .i64) 2 a7 w.heap.size (fun k_ => some k_ ≠ (ai : Value).ownBlock) ah a8 from ⟨fun k_ e_ => (by have hk_ := ab.out.1 k_ e_; (repeat' (first | exact trivial | refine And.intro ?_ ?_)) <;> first | exact hk_ | exact fun U => B.out k_ e_ U.symm | exact fun U => B.out k_ U.symm e_ | exact hk_.1 | exact hk_.2 | exact hk_.1.1 | exact hk_.1.2 | exact hk_.2.1 | exact hk_.2.2), ab.out.2.imp_ (fun _ _ hp => hp)⟩)) | (replace ab := mA (show Kd.R (Kd.int .i64) 2 a7 w.heap.size (fun k_ => some k_ ≠ (aJ : Value).ownBlock) ah a8 from ⟨fun k_ e_ => (by have hk_ := ab.out.1 k_ e_; (repeat' (first | exact trivial | refine And.intro ?_ ?_)) <;> first | exact hk_ | exact fun U => B.out k_ e_ U.symm | exact fun U => B.out k_ U.symm e_ | exact hk_.1 | exact hk_.2 | exact hk_.1.1 | exact hk_.1.2 | exact hk_.2.1 | exact hk_.2.2), ab.out.2.imp_ (fun _ _ hp => hp)⟩)) | (replace ab := mA (show Kd.R (Kd.int .i64) 2 a7 w.heap.size (fun k_ => some k_ ≠ (aK : Value).ownBlock) ah a8 from ⟨fun k_ e_ => (by have hk_ := ab.out.1 k_ e_; (repeat' (first | exact trivial | refine And.intro ?_ ?_)) <;> first | exact hk_ | exact fun U => B.out k_ e_ U.symm | exact fun U => B.out k_ U.symm e_ | exact hk_.1 | exact hk_.2 | exact hk_.1.1 | exact hk_.1.2 | exact hk_.2.1 | exact hk_.2.2), ab.out.2.imp_ (fun _ _ hp => hp)⟩)) | (replace ab := mA (show Kd.R (Kd.int .i64) 2 a7 w.heap.size (fun k_ => some k_ ≠ (ai : Value).ownBlock) aJ a8 from ⟨fun k_ e_ => (by have hk_ := ab.out.1 k_ e_; (repeat' (first | exact trivial | refine And.intro ?_ ?_)) <;> first | exact hk_ | exact fun U => B.out k_ e_ U.symm | exact fun U => B.out k_ U.symm e_ | exact hk_.1 | exact hk_.2 | exact hk_.1.1 | exact hk_.1.2 | exact hk_.2.1 | exact hk_.2.2), ab.out.2.imp_ (fun _ _ hp => hp)⟩)) | (replace ab := mA (show Kd.R (Kd.int .i64) 2 a7 w.heap.size (fun k_ => some k_ ≠ (aK : Value).ownBlock) aJ a8 from ⟨fun k_ e_ => (by have hk_ := ab.out.1 k_ e_; (repeat' (first | exact trivial | refine And.intro ?_ ?_)) <;> first | exact hk_ | exact fun U => B.out k_ e_ U.symm | exact fun U => B.out k_ U.symm e_ | exact hk_.1 | exact hk_.2 | exact hk_.1.1 | exact hk_.1.2 | exact hk_.2.1 | exact hk_.2.2), ab.out.2.imp_ (fun _ _ hp => hp)⟩)) | (replace ab := mA (show Kd.R (Kd.int .i64) 2 a7 w.heap.size (fun k_ => some k_ ≠ (ai : Value).ownBlock) aK a8 from ⟨fun k_ e_ => (by have hk_ := ab.out.1 k_ e_; (repeat' (first | exact trivial | refine And.intro ?_ ?_)) <;> first | exact hk_ | exact fun U => B.out k_ e_ U.symm | exact fun U => B.out k_ U.symm e_ | exact hk_.1 | exact hk_.2 | exact hk_.1.1 | exact hk_.1.2 | exact hk_.2.1 | exact hk_.2.2), ab.out.2.imp_ (fun _ _ hp => hp)⟩)) | (replace ab := mA (show Kd.R (Kd.int .i64) 2 a7 w.heap.size (fun k_ => some k_ ≠ (aJ : Value).ownBlock) aK a8 from ⟨fun k_ e_ => (by have hk_ := ab.out.1 k_ e_; (repeat' (first | exact trivial | refine And.intro ?_ ?_)) <;> first | exact hk_ | exact fun U => B.out k_ e_ U.symm | exact fun U => B.out k_ U.symm e_ | exact hk_.1 | exact hk_.2 | exact hk_.1.1 | exact hk_.1.2 | exact hk_.2.1 | exact hk_.2.2), ab.out.2.imp_ (fun _ _ hp => hp)⟩))
 first | (replace ae := mA (show Kd.R (Kd.int .i64) 2 a7 w.heap.size (fun k_ => some k_ ≠ (ah : Value).ownBlock) ai a9 from ⟨fun k_ e_ => (by have hk_ := ae.out.1 k_ e_; (repeat' (first | exact trivial | refine And.intro ?_ ?_)) <;> first | exact hk_ | exact fun U => B.out k_ e_ U.symm | exact fun U => B.out k_ U.symm e_ | exact hk_.1 | exact hk_.2 | exact hk_.1.1 | exact hk_.1.2 | exact hk_.2.1 | exact hk_.2.2), ae.out.2.imp_ (fun _ _ hp => hp)⟩)) | (replace ae := mA (show Kd.R (Kd.int .i64) 2 a7 w.heap.size (fun k_ => some k_ ≠ (ah : Value).ownBlock) aJ a9 from ⟨fun k_ e_ => (by have hk_ := ae.out.1 k_ e_; (repeat' (first | exact trivial | refine And.intro ?_ ?_)) <;> first | exact hk_ | exact fun U => B.out k_ e_ U.symm | exact fun U => B.out k_ U.symm e_ | exact hk_.1 | exact hk_.2 | exact hk_.1.1 | exact hk_.1.2 | exact hk_.2.1 | exact hk_.2.2), ae.out.2.imp_ (fun _ _ hp => hp)⟩)) | (replace ae := mA (show Kd.R (Kd.int .i64) 2 a7 w.heap.size (fun k_ => some k_ ≠ (ah : Value).ownBlock) aK a9 from ⟨fun k_ e_ => (by have hk_ := ae.out.1 k_ e_; (repeat' (first | exact trivial | refine And.intro ?_ ?_)) <;> first | exact hk_ | exact fun U => B.out k_ e_ U.symm | exact fun U => B.out k_ U.symm e_ | exact hk_.1 | exact hk_.2 | exact hk_.1.1 | exact hk_.1.2 | exact hk_.2.1 | exact hk_.2.2), ae.out.2.imp_ (fun _ _ hp => hp)⟩)) | (replace ae := mA (show Kd.R (Kd.int .i64) 2 a7 w.heap.size (fun k_ => some k_ ≠ (aJ : Value).ownBlock) ai a9 from ⟨fun k_ e_ => (by have hk_ := ae.out.1 k_ e_; (repeat' (first | exact trivial | refine And.intro ?_ ?_)) <;> first | exact hk_ | exact fun U => B.out k_ e_ U.symm | exact fun U => B.out k_ U.symm e_ | exact hk_.1 | exact hk_.2 | exact hk_.1.1 | exact hk_.1.2 | exact hk_.2.1 | exact hk_.2.2), ae.out.2.imp_ (fun _ _ hp => hp)⟩)) | (replace ae := mA (show Kd.R (Kd.int .i64) 2 a7 w.heap.size (fun k_ => some k_ ≠ (aJ : Value).ownBlock) aK a9 from ⟨fun k_ e_ => (by have hk_ := ae.out.1 k_ e_; (repeat' (first | exact trivial | refine And.intro ?_ ?_)) <;> first | exact hk_ | exact fun U => B.out k_ e_ U.symm | exact fun U => B.out k_ U.symm e_ | exact hk_.1 | exact hk_.2 | exact hk_.1.1 | exact hk_.1.2 | exact hk_.2.1 | exact hk_.2.2), ae.out.2.imp_ (fun _ _ hp => hp)⟩)) | (replace ae := mA (show Kd.R (Kd.int .i64) 2 a7 w.heap.size (fun k_ => some k_ ≠ (aK : Value).ownBlock) ai a9 from ⟨fun k_ e_ => (by have hk_ := ae.out.1 k_ e_; (repeat' (first | exact trivial | refine And.intro ?_ ?_)) <;> first | exact hk_ | exact fun U => B.out k_ e_ U.symm | exact fun U => B.out k_ U.symm e_ | exact hk_.1 | exact hk_.2 | exact hk_.1.1 | exact hk_.1.2 | exact hk_.2.1 | exact hk_.2.2), ae.out.2.imp_ (fun _ _ hp => hp)⟩)) | (replace ae := mA (show Kd.R (Kd.int .i64) 2 a7 w.heap.size (fun k_ => some k_ ≠ (aK : Value).ownBlock) aJ a9 from ⟨fun k_ e_ => (by have hk_ := ae.out.1 k_ e_; (repeat' (first | exact trivial | refine And.intro ?_ ?_)) <;> first | exact hk_ | exact fun U => B.out k_ e_ U.symm | exact fun U => B.out k_ U.symm e_ | exact hk_.1 | exact hk_.2 | exact hk_.1.1 | exact hk_.1.2 | exact hk_.2.1 | exact hk_.2.2), ae.out.2.imp_ (fun _ _ hp => hp)⟩))
 try go_wp2
 go_loopg [7, 8, 9] k (fun kq v7 v8 v9 w' => ∃ (bD : List Int) (bO : List Int) (E : Int) (O : List (List Int)) (P : List Bool) (L : Value) (I : Value), v9 = .int .i64 E ∧ Zac (Zak.l0 kq bD bO E ag ad y W aa G y O P = some (r1, r2, r3, r4)) ∧ Zac (kq ≤ k) ∧ Zac (Kd.R (Kd.int .i64) 2 w' w.heap.size (fun k_ => some k_ ≠ (v8 : Value).ownBlock) v7 bD) ∧ Zac (Kd.R (Kd.int .i64) 2 w' w.heap.size (fun k_ => some k_ ≠ (v7 : Value).ownBlock) v8 bO) ∧ Zac (Kd.S (Kd.slice 2 (Kd.int .i64)) 22 w' w.heap.size (fun k_ => some k_ ≠ (v7 : Value).ownBlock ∧ some k_ ≠ (v8 : Value).ownBlock) L O) ∧ Zac (Kd.R Kd.bool 4 w' w.heap.size (fun _ => True) I P) ∧ Zac (w'.heap[ap]? = some (.cells #[.int .i64 ag, (.slice av ad.length aw)] 30 (0, 0))) ∧ Zac (w'.heap[J]? = some (.cells #[.int .i64 y, .int .i64 W, .int .i64 aa, (.slice aN G.length ao)] 39 (0, 0))) ∧ Zac (w'.heap[X]? = some (.cells #[.int .i64 0, (.slice none 0 0), (.slice none 0 0)] 66 (0, 0))) ∧ Zac (w'.heap[u]? = some (.cells #[.int .i64 y, L, I] 66 (0, 0))) ∧ Zac (Below w.heap.size w w'))
 case atStart => exact ⟨(a8), (a9), (0), (([] : List (List Int))), (([] : List Bool)), (.slice none 0 0), (.slice none 0 0), (eW), H', ⟨Nat.le_refl _⟩, ⟨rP ab.out⟩, ⟨rP ae.out⟩, ⟨by first | exact yU _ _ _ _ _ | exact yW _ _ _ _ _ | exact yX _ _ _ _ _ | exact yT _ _ _ _ _ | exact yR _ _ _ _ _⟩, ⟨by first | exact yR _ _ _ _ _ | exact yW _ _ _ _ _ | exact yX _ _ _ _ _ | exact yT _ _ _ _ _ | exact yU _ _ _ _ _⟩, ⟨bP l.out⟩, ⟨bP c.out⟩, ⟨bP m.out⟩, ⟨bP d.out⟩, ⟨bW⟩⟩
 case round =>
  clear H' dl dm dn dH dI dJ dK dp dq dr dL dM dN dO
  obtain ⟨bD, bO, E, O, P, L, I, rfl, HA, aR, A, s, q, j, l, c, m, d, HB⟩ := hrel
  cases gk with
  | zero => exact absurd HA.out (by simp [Zak.l0])
  | succ k1 =>
   have H := HA.out
   clear HA
   simp only [Zak.l0] at H
   by_cases b3 : E < (bD.length : Int); rotate_left
   ·rw [if_neg b3] at H
    have cK := dF b3
    clear b3
    simp only [Option.some.injEq, Prod.mk.injEq] at H
    obtain ⟨rfl, rfl, rfl, rfl⟩ := H
    obtain ⟨g0, g1, eN⟩ := zP A.out
    subst eN
    have gl := a5.out
    have gm := ay.out
    have gn := aW.out
    have gp := ar.out
    have fP := a6.out
    have fQ := az.out
    have eO : wr.cell? ⟨u, 0, none⟩ = some (.int .i64 y) := bc d 0
    have eP : wr.cell? ⟨u, 1, none⟩ = some (L) := bc d 1
    have eQ : wr.cell? ⟨u, 2, none⟩ = some (I) := bc d 2
    have eR := Zae d.out 0
    have eS := Zae d.out 1
    have eT := Zae d.out 2
    have fR := cu.out
    have fS := ct.out
    have fT := a4.out
    have fU := a3.out
    have eU : wr.cell? ⟨X, 0, none⟩ = some (.int .i64 0) := bc m 0
    have eV : wr.cell? ⟨X, 1, none⟩ = some (.slice none 0 0) := bc m 1
    have eX : wr.cell? ⟨X, 2, none⟩ = some (.slice none 0 0) := bc m 2
    have eY := Zae m.out 0
    have eZ := Zae m.out 1
    have e0 := Zae m.out 2
    obtain ⟨bw, bx, d8⟩ := yE q.out
    subst d8
    obtain ⟨bK, bL, d9⟩ := zP j.out
    subst d9
    go_wp2
    refine bodyPost_ret (Zdh rfl _ _ X 66 #[.int .i64 y, .slice bw O.length bx, .slice bK P.length bL] (0, 0) _ rfl (by (with_reducible repeat (first | refine Zad ?_ _ | refine Zaa ?_ | refine Zab ?_ _)); refine Zau (cs := #[.int .i64 y, .slice bw O.length bx, .slice none 0 0]) ?_ 2 _ rfl; (with_reducible repeat (first | refine Zad ?_ _ | refine Zaa ?_ | refine Zab ?_ _)); refine Zau (cs := #[.int .i64 y, .slice none 0 0, .slice none 0 0]) ?_ 1 _ rfl; (with_reducible repeat (first | refine Zad ?_ _ | refine Zaa ?_ | refine Zab ?_ _)); refine Zau (cs := #[.int .i64 0, .slice none 0 0, .slice none 0 0]) ?_ 0 _ rfl; exact bP m.out) Tryd.underlying66 rfl (by kernel_rfl)) rfl ?_
    exact ⟨_, _, _, eW, by (with_reducible repeat (first | apply zL | apply zM | apply zH)); exact zG (zE (p := ⟨X, 2, none⟩) (zE (p := ⟨X, 1, none⟩) (zE (p := ⟨X, 0, none⟩) (zX q.out m.out (by decide)) (fun _ hk => hk.2) (.int .i64 y)) (fun _ hk => hk.2) (.slice bw O.length bx)) (fun _ hk => hk.2) (.slice bK P.length bL)) (fun _ hk => hk.1.2), by (with_reducible repeat (first | apply zC | apply zD | apply zA)); exact zB (zF (p := ⟨X, 2, none⟩) (zF (p := ⟨X, 1, none⟩) (zF (p := ⟨X, 0, none⟩) (zV j.out m.out (by decide)) (fun _ hk => hk.2) (.int .i64 y)) (fun _ hk => hk.2) (.slice bw O.length bx)) (fun _ hk => hk.2) (.slice bK P.length bL)) (fun _ hk => trivial), by (with_reducible repeat (first | apply zC | apply zD | apply zA)); exact zB (zF (p := ⟨X, 2, none⟩) (zF (p := ⟨X, 1, none⟩) (zF (p := ⟨X, 0, none⟩) (zV s.out m.out (by decide)) (fun _ hk => hk.2) (.int .i64 y)) (fun _ hk => hk.2) (.slice bw O.length bx)) (fun _ hk => hk.2) (.slice bK P.length bL)) (fun _ hk => trivial), bW⟩
   rw [if_pos b3] at H
   have cK := dT b3
   clear b3
   obtain ⟨dR, cg⟩ : ∃ y_ : List Int, y_ = (([] : List Int)) := ⟨_, rfl⟩
   replace H : (Zak.l1 k1 bD bO E dR 0 ag ad y W aa G y O P) = some (r1, r2, r3, r4) := by rw [cg]; with_reducible exact H
   have cL := mA cg
   clear cg
   have H' := mA H
   clear H
   obtain ⟨g2, g3, e1⟩ := zP A.out
   subst e1
   go_wp2_with (first | ((with_reducible refine Zat (N := 28) rfl ?_); refine yP (Kd.int .i64) _ 2 ?hg (N := 28) ?hd (xs := ([] : List Int)) (inner := []) (ok := fun _ => True) (okp := fun _ => True) ?hr ?hp (fun _ hk => hk) trivial (Below.refl _ _) (Nat.le_refl _) (by simp) ?_; (case hd => rfl); (case hg => rfl); (case hr => first | (go_simp; done) | (go_simp; rfl)); (case hp => exact (Reps.none _ _)); intro g4 hw bo hb hg_ hnew_; clear hg_ hnew_; (first | rw [← cL.out] at bo | (simp only [Int.reduceToNat] at bo; rw [← cL.out] at bo)); replace q := mA (yQ (sP q.out) (zU bo) hb); replace j := mA (zK (rP j.out) hb); have ea := mA (zS (yC (yC bo (zI (rP A.out))) (zI (rP s.out))) (Zaj (bW))); replace A := mA (zZ (rP A.out) (zU bo) hb); replace s := mA (zZ (rP s.out) (zU bo) hb); replace l := mA (blkB l.out hb); replace c := mA (blkB c.out hb); replace m := mA (blkB m.out hb); replace d := mA (blkB d.out hb); replace HB := mA (Zaf (bW) hb); clear hb bo))
   go_loopg [7, 8, 10, 11] k1 (fun kq v7 v8 v10 v11 w' => ∃ (D : List Int) (x : List Int) (ac : List Int) (T : Int), v11 = .int .i64 T ∧ Zac (Zak.l1 kq D x E ac T ag ad y W aa G y O P = some (r1, r2, r3, r4)) ∧ Zac (kq ≤ k1) ∧ Zac (Kd.R (Kd.int .i64) 2 w' w.heap.size (fun k_ => some k_ ≠ (v8 : Value).ownBlock ∧ some k_ ≠ (v10 : Value).ownBlock) v7 D) ∧ Zac (Kd.R (Kd.int .i64) 2 w' w.heap.size (fun k_ => some k_ ≠ (v7 : Value).ownBlock ∧ some k_ ≠ (v10 : Value).ownBlock) v8 x) ∧ Zac (Kd.R (Kd.int .i64) 2 w' w.heap.size (fun k_ => some k_ ≠ (v7 : Value).ownBlock ∧ some k_ ≠ (v8 : Value).ownBlock) v10 ac) ∧ Zac (Kd.S (Kd.slice 2 (Kd.int .i64)) 22 w' w.heap.size (fun k_ => some k_ ≠ (v7 : Value).ownBlock ∧ some k_ ≠ (v8 : Value).ownBlock ∧ some k_ ≠ (v10 : Value).ownBlock) L O) ∧ Zac (Kd.R Kd.bool 4 w' w.heap.size (fun _ => True) I P) ∧ Zac (w'.heap[ap]? = some (.cells #[.int .i64 ag, (.slice av ad.length aw)] 30 (0, 0))) ∧ Zac (w'.heap[J]? = some (.cells #[.int .i64 y, .int .i64 W, .int .i64 aa, (.slice aN G.length ao)] 39 (0, 0))) ∧ Zac (w'.heap[X]? = some (.cells #[.int .i64 0, (.slice none 0 0), (.slice none 0 0)] 66 (0, 0))) ∧ Zac (w'.heap[u]? = some (.cells #[.int .i64 y, L, I] 66 (0, 0))) ∧ Zac (Below w.heap.size w w'))
   case atStart => exact ⟨(bD), (bO), (dR), (0), (eW), H', ⟨Nat.le_refl _⟩, ⟨rP A.out⟩, ⟨rP s.out⟩, ⟨by (with_reducible repeat (first | apply zC | apply zD | apply zA)); exact zB ea.out (fun _ hk => ⟨hk.1.2, hk.2⟩)⟩, ⟨by (with_reducible repeat (first | apply zL | apply zM | apply zH)); exact zG q.out (fun _ hk => ⟨hk.1.1, ⟨hk.1.2, hk.2⟩⟩)⟩, ⟨rP j.out⟩, ⟨bP l.out⟩, ⟨bP c.out⟩, ⟨bP m.out⟩, ⟨bP d.out⟩, ⟨bW⟩⟩
   case round =>
    clear H' cK
    obtain ⟨D, x, ac, T, rfl, HA, aT, A, s, r, q, j, l, c, m, d, HB⟩ := hrel
    cases gk with
    | zero => exact absurd HA.out (by simp [Zak.l1])
    | succ k2 =>
     have H := HA.out
     clear HA
     simp only [Zak.l1] at H
     by_cases b4 : T < y; rotate_left
     ·rw [if_neg b4] at H
      have cM := dF b4
      clear b4
      by_cases cN : O.length < 5864062014805; rotate_left
      ·rw [if_neg cN] at H
       exact absurd H (by simp)
      rw [if_pos cN] at H
      have eb := mA cN
      clear cN
      obtain ⟨ax, cO⟩ := nm ((O ++ [ac]) : List (List Int))
      rw [← cO.out] at H
      obtain ⟨gq, H⟩ := gE H
      obtain ⟨gr, H⟩ := gE H
      obtain ⟨ch, fV, H⟩ := bA H
      by_cases cQ : P.length < 140737488355328; rotate_left
      ·rw [if_neg cQ] at H
       exact absurd H (by simp)
      rw [if_pos cQ] at H
      have ec := mA cQ
      clear cQ
      obtain ⟨bE, cR⟩ := nm ((P ++ [ch]) : List Bool)
      rw [← cR.out] at H
      have H' := mA H
      clear H
      have gs := bn.out
      have gu := bm.out
      have gv := a3.out
      have gw := a4.out
      have gx := ar.out
      have gy := aW.out
      have fl : wr.cell? ⟨J, 0, none⟩ = some (.int .i64 y) := bc c 0
      have fm : wr.cell? ⟨J, 1, none⟩ = some (.int .i64 W) := bc c 1
      have fn : wr.cell? ⟨J, 2, none⟩ = some (.int .i64 aa) := bc c 2
      have fo : wr.cell? ⟨J, 3, none⟩ = some (.slice aN G.length ao) := bc c 3
      have fp := Zae c.out 0
      have fq := Zae c.out 1
      have fr := Zae c.out 2
      have fs := Zae c.out 3
      have gz := a5.out
      have gA := ay.out
      have gB := a6.out
      have gC := az.out
      have ft : wr.cell? ⟨u, 0, none⟩ = some (.int .i64 y) := bc d 0
      have fu : wr.cell? ⟨u, 1, none⟩ = some (L) := bc d 1
      have fv : wr.cell? ⟨u, 2, none⟩ = some (I) := bc d 2
      have fw := Zae d.out 0
      have fx := Zae d.out 1
      have fy := Zae d.out 2
      obtain ⟨dS, dU, e2⟩ := zP r.out
      subst e2
      try go_wp2_with (first | ((with_reducible refine Za6 (b := .append) (xs := #[.tmp 105, .tmp 107]) rfl ?_); at_builtin; refine Kd.S_append (Kd.slice 2 (Kd.int .i64)) (w0 := w) w.heap.size rfl (.tmp 105) (.tmp 107) 37 22 (.slice none 0 0) 24 rfl Tryd.underlying37 info22 rfl (by decide) (by omega) L O ac [.slice dS ac.length dU] (fun k_ => some k_ ≠ (u7 : Value).ownBlock ∧ some k_ ≠ (u8 : Value).ownBlock) (fun k_ => some k_ = (.slice dS ac.length dU : Value).ownBlock) rfl rfl ?aP (fun k_ hk_ => ((zB (ok' := fun k_ => ((fun k_ => some k_ ≠ (u7 : Value).ownBlock ∧ some k_ ≠ (u8 : Value).ownBlock)) k_ ∧ some k_ ≠ (L : Value).ownBlock) (yG (r.out) (yH q.out) (by decide)) (fun k_ hk => ⟨⟨hk.1.1, hk.1.2⟩, hk.2⟩))).1 k_ hk_.symm) ?aF ?aO ?aB ?aS ?aL ?_; (case aP => exact Kd.M_row (zB (xC rfl (zB (ok' := fun k_ => ((fun k_ => some k_ ≠ (u7 : Value).ownBlock ∧ some k_ ≠ (u8 : Value).ownBlock)) k_ ∧ some k_ ≠ (L : Value).ownBlock) (yG (r.out) (yH q.out) (by decide)) (fun k_ hk => ⟨⟨hk.1.1, hk.1.2⟩, hk.2⟩))) (fun _ h_ => h_))); (case aB => exact (bW)); (case aF => exact (fun k_ hk => ⟨zT (zI (rP A.out)) k_ hk, zT (zI (rP s.out)) k_ hk⟩)); (case aO => exact (by (with_reducible repeat (first | apply zL | apply zM | apply zH)); exact zG q.out (fun k_ hk => ⟨⟨hk.1, hk.2.1⟩, fun e_ => hk.2.2 e_⟩))); (case aS => exact (Zaj (bW))); (case aL => have := eb.out; omega); intro g5 bs ho hb hg hat; rw [← cO.out] at ho; replace A := mA (yB (rP A.out) (yH (sP q.out)) (by decide) hg); replace s := mA (yB (rP s.out) (yH (sP q.out)) (by decide) hg); replace j := mA (yB (rP j.out) (yH (sP q.out)) (by decide) hg); replace l := mA (Zah (g := ap) (o := .cells #[.int .i64 ag, .slice av ad.length aw] 30 (0, 0)) (bP l.out) hg (yN q.out l.out (by decide))); replace c := mA (Zah (g := J) (o := .cells #[.int .i64 y, .int .i64 W, .int .i64 aa, .slice aN G.length ao] 39 (0, 0)) (bP c.out) hg (yN q.out c.out (by decide))); replace m := mA (Zah (g := X) (o := .cells #[.int .i64 0, .slice none 0 0, .slice none 0 0] 66 (0, 0)) (bP m.out) hg (yN q.out m.out (by decide))); replace d := mA (Zah (g := u) (o := .cells #[.int .i64 y, L, I] 66 (0, 0)) (bP d.out) hg (yN q.out d.out (by decide))); replace HB := mA (hb); have aV := mA (ho); clear q r ho hb hg hat; obtain ⟨aC, aD, e3⟩ := yE aV.out; subst e3; obtain ⟨fz, fA, fB⟩ := cells3 d.out; obtain ⟨fC, fD, fE⟩ := frz3 d.out))
      have bb : Zac (Kd.R (Kd.int .i64) 2 (bs.setCell ⟨u, 1, none⟩ (.slice aC ax.length aD)) w.heap.size (fun k_ => some k_ ≠ (u8 : Value).ownBlock) u7 D) := ⟨by (with_reducible repeat (first | apply zC | apply zD | apply zA)); exact zB (zF (p := ⟨u, 1, none⟩) (zV A.out d.out (by decide)) (fun _ hk => hk.2) (.slice aC ax.length aD)) (fun _ hk => hk.1.1)⟩
      have bd : Zac (Kd.R (Kd.int .i64) 2 (bs.setCell ⟨u, 1, none⟩ (.slice aC ax.length aD)) w.heap.size (fun k_ => some k_ ≠ (u7 : Value).ownBlock) u8 x) := ⟨by (with_reducible repeat (first | apply zC | apply zD | apply zA)); exact zB (zF (p := ⟨u, 1, none⟩) (zV s.out d.out (by decide)) (fun _ hk => hk.2) (.slice aC ax.length aD)) (fun _ hk => hk.1.1)⟩
      have bf : Zac (Kd.R Kd.bool 4 (bs.setCell ⟨u, 1, none⟩ (.slice aC ax.length aD)) w.heap.size (fun _ => True) I P) := ⟨by (with_reducible repeat (first | apply zC | apply zD | apply zA)); exact zB (zF (p := ⟨u, 1, none⟩) (zV j.out d.out (by decide)) (fun _ hk => hk.2) (.slice aC ax.length aD)) (fun _ hk => trivial)⟩
      have bg : Zac (Kd.S (Kd.slice 2 (Kd.int .i64)) 22 (bs.setCell ⟨u, 1, none⟩ (.slice aC ax.length aD)) w.heap.size (fun k_ => some k_ ≠ (u7 : Value).ownBlock ∧ some k_ ≠ (u8 : Value).ownBlock) (.slice aC ax.length aD) ax) := ⟨by (with_reducible repeat (first | apply zL | apply zM | apply zH)); exact zG (zE (p := ⟨u, 1, none⟩) (zX aV.out d.out (by decide)) (fun _ hk => hk.2) (.slice aC ax.length aD)) (fun _ hk => ⟨hk.1.1, hk.1.2⟩)⟩
      have bh : Zac ((bs.setCell ⟨u, 1, none⟩ (.slice aC ax.length aD)).heap[ap]? = some (.cells #[.int .i64 ag, .slice av ad.length aw] 30 (0, 0))) := ⟨by (with_reducible repeat (first | refine Zad ?_ _ | refine Zaa ?_ | refine Zab ?_ _)); refine Zao ?_ ay.out _; exact bP l.out⟩
      have bv : Zac ((bs.setCell ⟨u, 1, none⟩ (.slice aC ax.length aD)).heap[J]? = some (.cells #[.int .i64 y, .int .i64 W, .int .i64 aa, .slice aN G.length ao] 39 (0, 0))) := ⟨by (with_reducible repeat (first | refine Zad ?_ _ | refine Zaa ?_ | refine Zab ?_ _)); refine Zao ?_ ar.out _; exact bP c.out⟩
      have dV : Zac ((bs.setCell ⟨u, 1, none⟩ (.slice aC ax.length aD)).heap[X]? = some (.cells #[.int .i64 0, .slice none 0 0, .slice none 0 0] 66 (0, 0))) := ⟨by (with_reducible repeat (first | refine Zad ?_ _ | refine Zaa ?_ | refine Zab ?_ _)); refine Zao ?_ az.out _; exact bP m.out⟩
      have dW : Zac ((bs.setCell ⟨u, 1, none⟩ (.slice aC ax.length aD)).heap[u]? = some (.cells #[.int .i64 y, .slice aC ax.length aD, I] 66 (0, 0))) := ⟨by (with_reducible repeat (first | refine Zad ?_ _ | refine Zaa ?_ | refine Zab ?_ _)); refine Zau (cs := #[.int .i64 y, L, I]) ?_ 1 _ rfl; exact bP d.out⟩
      have dX : Zac (Below w.heap.size w (bs.setCell ⟨u, 1, none⟩ (.slice aC ax.length aD))) := ⟨bW⟩
      (try clear A)
      (try clear s)
      (try clear j)
      (try clear aV)
      (try clear l)
      (try clear c)
      (try clear m)
      (try clear d)
      (try clear HB)
      generalize (bs.setCell ⟨u, 1, none⟩ (.slice aC ax.length aD)) = fW at bb bd bf bg bh bv dV dW dX ⊢
      have A := bb; have s := bd; have j := bf; have aV := bg; have l := bh; have c := bv; have m := dV; have d := dW; have HB := dX; clear bb bd bf bg bh bv dV dW dX
      replace A := mA (zA A.out)
      replace s := mA (zA s.out)
      replace j := mA (zA j.out)
      replace aV := mA (zH aV.out)
      replace l := mA (Zaa l.out)
      replace c := mA (Zaa c.out)
      replace m := mA (Zaa m.out)
      replace d := mA (Zaa d.out)
      replace HB := mA (Za1 HB.out)
      obtain ⟨g6, g7, dY⟩ := zP s.out
      (first | subst dY | (injection dY with bp bQ bq; have bR := bp.symm; have bS := bq.symm; clear bp bQ bq; subst bR; subst bS))
      have cx : 0 ≤ (E : Int) := ofD
      have cy : E < (x.length : Int) := ofD
      obtain ⟨ed, e4, b5⟩ := zO (zJ s.out).2.2 E cx cy
      cases e4
      replace cx := eq_true cx
      replace cy := eq_true cy
      refine Zck (n := 13) (S := fun w' => w'.cell? ⟨u, 0, none⟩ = some (.int .i64 y) ∧ w'.cell? ⟨u, 1, none⟩ = some (.slice aC ax.length aD) ∧ w'.cell? ⟨u, 2, none⟩ = some (I) ∧ w'.cell? ⟨J, 0, none⟩ = some (.int .i64 y) ∧ w'.cell? ⟨J, 1, none⟩ = some (.int .i64 W) ∧ w'.cell? ⟨J, 2, none⟩ = some (.int .i64 aa) ∧ w'.cell? ⟨J, 3, none⟩ = some (.slice aN G.length ao) ∧ w'.cell? (ed.add (E).toNat) = some (.int .i64 (rd x E))) (ds := [12]) #[false, false, false, false, false, false, false, false, false, false, false, false, false] (by kernel_rfl) rfl rfl ⟨bc d 0, bc d 1, bc d 2, bc c 0, bc c 1, bc c 2, bc c 3, b5⟩ (fun hHeld => ?_); refine Zb5 Zak.tab22 Zak.bits22 (fun HT_ HW_ => ?_)
      generalize fW.drew = w92 at A s j aV l c m d HB b5 hHeld ⊢
      refine Zas (i := 0) (N := some 110) (Zap HT_.out (by kernel_rfl)) ?_
      refine Zas (i := 2) (N := some 112) (Zap HT_.out (by kernel_rfl)) ?_
      refine Zas (i := 4) (N := some 114) (Zap HT_.out (by kernel_rfl)) ?_
      refine Zas (i := 5) (N := some 115) (Zap HT_.out (by kernel_rfl)) ?_
      refine Zas (i := 6) (N := some 116) (Zap HT_.out (by kernel_rfl)) ?_
      refine Zbg (i := 1) (N := some 111) (Za0 HT_.out HW_.out (by kernel_rfl)) hHeld ?_
      refine Zbg (i := 3) (N := some 113) (Za0 HT_.out HW_.out (by kernel_rfl)) hHeld ?_
      refine Zbg (i := 7) (N := some 117) (Za0 HT_.out HW_.out (by kernel_rfl)) hHeld ?_
      refine one_ (i := 8) (N := some 118) #[true, true, true, true, true, true, true, true, true, false, false, false, false] rfl rfl (Zbe HT_.out (by kernel_rfl)) (by decide) (fun K hK => ?_)
      refine goes_ Tryd.func43 (by kernel_rfl) rfl #[.int .i64 aa, .int .i64 (rd x E)] (by rfl) rfl rfl (by (try simp only [List.map_toArray, List.map_cons, List.map_nil]); first | done | rfl | (simp only [List.length_drop, List.length_take]; rfl)) ?_
      with_reducible refine (Za5.calls aa (rd x E) ch _ fV.out).mono ?_
      rintro e w' ⟨rfl, ⟨nd, rfl⟩⟩
      refine ⟨_, rfl, ?_⟩
      refine hK.out _ _ ⟨bc d 0, bc d 1, bc d 2, bc c 0, bc c 1, bc c 2, bc c 3, hHeld.2.2.2.2.2.2.2⟩ (fun hHeld => ?_)
      clear hK K
      refine putS 118 ?_
      refine one_ (i := 9) (N := some 119) #[true, true, true, true, true, true, true, true, true, true, false, false, false] rfl rfl (Zbe HT_.out (by kernel_rfl)) (by decide) (fun K hK => ?_)
      refine value_ (w1 := ?_) (v := ?_) (by rfl) rfl ?_ ?_
      rotate_left 2
      ·go_simp
       constructor
       ·rfl
       ·rfl
      refine hK.out _ _ ⟨(Zbo (Zab d.out _) 0).trans rfl, (Zbo (Zab d.out _) 1).trans rfl, (Zbo (Zab d.out _) 2).trans rfl, (Zbo (Zab c.out _) 0).trans rfl, (Zbo (Zab c.out _) 1).trans rfl, (Zbo (Zab c.out _) 2).trans rfl, (Zbo (Zab c.out _) 3).trans rfl, (World.cell?_alloc_lt _ _ _ (World.block_lt_of_cell? _ _ (hHeld.2.2.2.2.2.2.2))).trans (hHeld.2.2.2.2.2.2.2)⟩ (fun hHeld => ?_)
      clear hK K
      refine putS 119 ?_
      refine one_ (i := 10) (N := some 120) #[true, true, true, true, true, true, true, true, true, true, true, false, false] rfl rfl (Zbe HT_.out (by kernel_rfl)) (by decide) (fun K hK => ?_)
      refine xG Kd.bool (w0 := w) w.heap.size (by rfl) (.tmp 111) (.tmp 119) 64 4 (.bool false) 1 rfl Tryd.underlying64 info4 rfl (by decide) (by omega) I P ch [.bool ch] (fun _ => True) (fun _ => False) rfl rfl ?aP (fun _ hk => hk.elim) ?aF ?aO ?aB ?aS ?aL ?_
      (case aP => exact rfl)
      (case aB => exact (bW))
      (case aF => exact (fun _ _ => trivial))
      (case aO => exact (rP j.out))
      (case aS => exact (Zaj (bW)))
      (case aL => have := ec.out; omega)
      intro g8 fX ho hb hg hat
      (first | have dZ := Zc3 hg (hHeld.2.2.2.2.2.2.2) (by first | (rw [Zbb]; exact (fun e_ => ((yG j.out (zY s.out) (by decide)).1 _ e_.symm).2 rfl)) | (show some (Addr.add _ _).block ≠ _; rw [Zbb]; exact (fun e_ => ((yG j.out (zY s.out) (by decide)).1 _ e_.symm).2 rfl)) | exact (fun e_ => ((yG j.out (zY s.out) (by decide)).1 _ e_.symm).2 rfl)) | have dZ := Zc3 hg (cell_unalloc (hHeld.2.2.2.2.2.2.2) (by first | (rw [Zbb]; exact zI s.out _ rfl) | (show (Addr.add _ _).block < _; rw [Zbb]; exact zI s.out _ rfl) | exact zI s.out _ rfl)) (by first | (rw [Zbb]; exact (fun e_ => ((yG j.out (zY s.out) (by decide)).1 _ e_.symm).2 rfl)) | (show some (Addr.add _ _).block ≠ _; rw [Zbb]; exact (fun e_ => ((yG j.out (zY s.out) (by decide)).1 _ e_.symm).2 rfl)) | exact (fun e_ => ((yG j.out (zY s.out) (by decide)).1 _ e_.symm).2 rfl)))
      rw [← cR.out] at ho
      replace A := mA (yB (rP A.out) (zY (rP j.out)) (by decide) hg)
      replace s := mA (yB (rP s.out) (zY (rP j.out)) (by decide) hg)
      replace l := mA (Zah (g := ap) (o := .cells #[.int .i64 ag, .slice av ad.length aw] 30 (0, 0)) (bP l.out) hg (zN j.out l.out (by decide)))
      replace c := mA (Zah (g := J) (o := .cells #[.int .i64 y, .int .i64 W, .int .i64 aa, .slice aN G.length ao] 39 (0, 0)) (bP c.out) hg (zN j.out c.out (by decide)))
      replace m := mA (Zah (g := X) (o := .cells #[.int .i64 0, .slice none 0 0, .slice none 0 0] 66 (0, 0)) (bP m.out) hg (zN j.out m.out (by decide)))
      replace d := mA (Zah (g := u) (o := .cells #[.int .i64 y, .slice aC ax.length aD, I] 66 (0, 0)) (bP d.out) hg (zN j.out d.out (by decide)))
      replace aV := mA (Kd.S_over' (sP aV.out) (zY (rP j.out)) (by decide) hg)
      replace HB := mA (hb)
      have cS := mA (ho)
      clear j ho hb hg hat
      obtain ⟨bT, bU, d0⟩ := zP cS.out
      (first | subst d0 | (injection d0 with bp bQ bq; have bR := bp.symm; have bS := bq.symm; clear bp bQ bq; subst bR; subst bS))
      refine hK.out _ _ ⟨bc d 0, bc d 1, bc d 2, bc c 0, bc c 1, bc c 2, bc c 3, dZ⟩ (fun hHeld => ?_)
      clear hK K
      refine putS 120 ?_
      refine Zas (i := 11) (N := some 121) (Zap HT_.out (by kernel_rfl)) ?_
      refine last_ (i := 12) (N := none) #[true, true, true, true, true, true, true, true, true, true, true, true, true] rfl rfl (Zbe HT_.out (by kernel_rfl)) (by decide) (fun K hK => ?_)
      have g9 : fX.cell? ⟨u, 2, none⟩ = some (I) := bc d 2
      have gD := Zae d.out 2
      have fF := ay.out
      have fG := ar.out
      have fH := az.out
      have fI := a5.out
      have fJ := aW.out
      have fK := a6.out
      refine skip_ (w1 := ?_) (by rfl) rfl ?_ ?_
      rotate_left
      ·go_simp
       rfl
      refine hK.out _ _ ?_
      clear hK K
      refine done_ (Zcs HT_.out (by kernel_rfl)) ?_
      try go_wp2
      go_roundg k2
      case measure => have := aR.out; have := aT.out; omega
      case rel => exact ⟨(D), (x), (wrap64 (E + 1)), (ax), (bE), (.slice aC ax.length aD), (.slice bT bE.length bU), (eW), H', ⟨by have := aR.out; have := aT.out; omega⟩, ⟨by (with_reducible repeat (first | apply zC | apply zD | apply zA)); exact zB (zF (p := ⟨u, 2, none⟩) (zV A.out d.out (by decide)) (fun _ hk => hk.2) (.slice bT bE.length bU)) (fun _ hk => hk.1)⟩, ⟨by (with_reducible repeat (first | apply zC | apply zD | apply zA)); exact zB (zF (p := ⟨u, 2, none⟩) (zV s.out d.out (by decide)) (fun _ hk => hk.2) (.slice bT bE.length bU)) (fun _ hk => hk.1)⟩, ⟨by (with_reducible repeat (first | apply zL | apply zM | apply zH)); exact zG (zE (p := ⟨u, 2, none⟩) (zX aV.out d.out (by decide)) (fun _ hk => hk.2) (.slice bT bE.length bU)) (fun _ hk => ⟨hk.1.1, hk.1.2⟩)⟩, ⟨by (with_reducible repeat (first | apply zC | apply zD | apply zA)); exact zB (zF (p := ⟨u, 2, none⟩) (zV cS.out d.out (by decide)) (fun _ hk => hk.2) (.slice bT bE.length bU)) (fun _ hk => trivial)⟩, ⟨by (with_reducible repeat (first | refine Zad ?_ _ | refine Zaa ?_ | refine Zab ?_ _)); refine Zao ?_ ay.out _; exact bP l.out⟩, ⟨by (with_reducible repeat (first | refine Zad ?_ _ | refine Zaa ?_ | refine Zab ?_ _)); refine Zao ?_ ar.out _; exact bP c.out⟩, ⟨by (with_reducible repeat (first | refine Zad ?_ _ | refine Zaa ?_ | refine Zab ?_ _)); refine Zao ?_ az.out _; exact bP m.out⟩, ⟨by (with_reducible repeat (first | refine Zad ?_ _ | refine Zaa ?_ | refine Zab ?_ _)); refine Zau (cs := #[.int .i64 y, .slice aC ax.length aD, I]) ?_ 2 _ rfl; exact bP d.out⟩, ⟨bW⟩⟩
     rw [if_pos b4] at H
     have cM := dT b4
     clear b4
     obtain ⟨ee, H⟩ := gE H
     obtain ⟨ef, H⟩ := gE H
     obtain ⟨eg, H⟩ := gE H
     obtain ⟨eh, H⟩ := gE H
     obtain ⟨ei, H⟩ := gE H
     obtain ⟨ej, H⟩ := gE H
     have cz := mA H
     clear H
     have gF := bn.out
     have gG := bm.out
     have gH := a3.out
     have gI := a4.out
     have gJ := ar.out
     have gK := aW.out
     have dv : wr.cell? ⟨J, 0, none⟩ = some (.int .i64 y) := bc c 0
     have dw : wr.cell? ⟨J, 1, none⟩ = some (.int .i64 W) := bc c 1
     have dx : wr.cell? ⟨J, 2, none⟩ = some (.int .i64 aa) := bc c 2
     have dy : wr.cell? ⟨J, 3, none⟩ = some (.slice aN G.length ao) := bc c 3
     have dz := Zae c.out 0
     have dA := Zae c.out 1
     have dB := Zae c.out 2
     have dC := Zae c.out 3
     try go_wp2
     replace A := mA (zA A.out)
     replace s := mA (zA s.out)
     replace r := mA (zA r.out)
     replace q := mA (zH q.out)
     replace j := mA (zA j.out)
     replace l := mA (Zaa l.out)
     replace c := mA (Zaa c.out)
     replace m := mA (Zaa m.out)
     replace d := mA (Zaa d.out)
     replace HB := mA (Za1 HB.out)
     obtain ⟨hc, aq, d1⟩ := zP s.out
     (first | subst d1 | (injection d1 with bp bQ bq; have bR := bp.symm; have bS := bq.symm; clear bp bQ bq; subst bR; subst bS))
     have ci : 0 ≤ (E : Int) := ofD
     have cj : E < (x.length : Int) := ofD
     obtain ⟨Y, e5, bF⟩ := zO (zJ s.out).2.2 E ci cj
     cases e5
     replace ci := eq_true ci
     replace cj := eq_true cj
     have ck : 0 ≤ ((rd x E) : Int) := ofD
     have cm : (rd x E) < (G.length : Int) := ofD
     obtain ⟨aG, fY, d2, e6, aZ, b6, b7⟩ := at_L3 d7.out (rd x E) ck cm
     have dD := aZ
     cases e6
     replace aZ := (HB.out.cell (wB w aZ)).trans aZ
     have b8 := mA b7
     have fL := mA b6
     clear b7 b6
     replace ck := eq_true ck
     replace cm := eq_true cm
     have cn : 0 ≤ (T : Int) := ofD
     have co : T < ((Zam G (rd x E)).length : Int) := ofD
     obtain ⟨cT, e7, a0⟩ := zO b8.out T cn co
     have dE := a0
     cases e7
     replace a0 := (HB.out.cell (wB w a0)).trans a0
     replace cn := eq_true cn
     replace co := eq_true co
     refine Zck (n := 12) (S := fun w' => w'.cell? ⟨J, 0, none⟩ = some (.int .i64 y) ∧ w'.cell? ⟨J, 1, none⟩ = some (.int .i64 W) ∧ w'.cell? ⟨J, 2, none⟩ = some (.int .i64 aa) ∧ w'.cell? ⟨J, 3, none⟩ = some (.slice (some aG) G.length ao) ∧ w'.cell? (Y.add (E).toNat) = some (.int .i64 (rd x E)) ∧ w'.cell? (aG.add ((rd x E)).toNat) = some (.slice (some cT) (Zam G (rd x E)).length d2) ∧ w'.cell? (cT.add (T).toNat) = some (.int .i64 (rd (Zam G (rd x E)) T))) (ds := []) #[false, false, false, false, false, false, false, false, false, false, false, false] (by kernel_rfl) rfl rfl ⟨bc c 0, bc c 1, bc c 2, bc c 3, bF, (cB HB dD :), (cB HB dE :)⟩ (fun hHeld => ?_); refine Zb5 Zak.tab10 Zak.bits10 (fun HT_ HW_ => ?_)
     generalize wr.drew = w37 at A s r q j l c m d HB b8 bF aZ a0 hHeld ⊢
     refine Zas (i := 0) (N := some 35) (Zap HT_.out (by kernel_rfl)) ?_
     refine Zas (i := 2) (N := some 37) (Zap HT_.out (by kernel_rfl)) ?_
     refine Zas (i := 3) (N := some 38) (Zap HT_.out (by kernel_rfl)) ?_
     refine Zas (i := 4) (N := some 39) (Zap HT_.out (by kernel_rfl)) ?_
     refine Zas (i := 8) (N := some 43) (Zap HT_.out (by kernel_rfl)) ?_
     refine Zbg (i := 1) (N := some 36) (Za0 HT_.out HW_.out (by kernel_rfl)) hHeld ?_
     refine Zbg (i := 5) (N := some 40) (Za0 HT_.out HW_.out (by kernel_rfl)) hHeld ?_
     refine Zas (i := 6) (N := some 41) (Zap HT_.out (by kernel_rfl)) ?_
     refine Zbg (i := 7) (N := some 42) (Za0 HT_.out HW_.out (by kernel_rfl)) hHeld ?_
     refine Zas (i := 9) (N := some 44) (Zap HT_.out (by kernel_rfl)) ?_
     refine Zbg (i := 10) (N := some 45) (Za0 HT_.out HW_.out (by kernel_rfl)) hHeld ?_
     refine Zas (i := 11) (N := some 12) (Zap HT_.out (by kernel_rfl)) ?_
     refine done_ (Zcs HT_.out (by kernel_rfl)) ?_
     go_upto_region 11 with (fail)
     go_cut [55] (fun v55 wc => ∃ (kq : Nat) (bz : Bool), v55 = .bool bz ∧ Zac (Zak.j2 kq D x E ac T (rd (Zam G (rd x E)) T) bz ag ad y W aa G y O P = some (r1, r2, r3, r4)) ∧ Zac (kq ≤ k2) ∧ Zac (Kd.R (Kd.int .i64) 2 wc w.heap.size (fun k_ => some k_ ≠ ((.slice (some Y) x.length aq) : Value).ownBlock ∧ some k_ ≠ (u10 : Value).ownBlock) u7 D) ∧ Zac (Kd.R (Kd.int .i64) 2 wc w.heap.size (fun k_ => some k_ ≠ (u7 : Value).ownBlock ∧ some k_ ≠ (u10 : Value).ownBlock) (.slice (some Y) x.length aq) x) ∧ Zac (Kd.R (Kd.int .i64) 2 wc w.heap.size (fun k_ => some k_ ≠ (u7 : Value).ownBlock ∧ some k_ ≠ ((.slice (some Y) x.length aq) : Value).ownBlock) u10 ac) ∧ Zac (Kd.S (Kd.slice 2 (Kd.int .i64)) 22 wc w.heap.size (fun k_ => some k_ ≠ (u7 : Value).ownBlock ∧ some k_ ≠ ((.slice (some Y) x.length aq) : Value).ownBlock ∧ some k_ ≠ (u10 : Value).ownBlock) L O) ∧ Zac (Kd.R Kd.bool 4 wc w.heap.size (fun _ => True) I P) ∧ Zac (wc.heap[ap]? = some (.cells #[.int .i64 ag, (.slice av ad.length aw)] 30 (0, 0))) ∧ Zac (wc.heap[J]? = some (.cells #[.int .i64 y, .int .i64 W, .int .i64 aa, (.slice (some aG) G.length ao)] 39 (0, 0))) ∧ Zac (wc.heap[X]? = some (.cells #[.int .i64 0, (.slice none 0 0), (.slice none 0 0)] 66 (0, 0))) ∧ Zac (wc.heap[u]? = some (.cells #[.int .i64 y, L, I] 66 (0, 0))) ∧ Zac (Below w.heap.size w wc))
     case first =>
      have H := cz.out
      clear cz
      by_cases b9 : (rd (Zam G (rd x E)) T) < 0
      ·rw [if_pos b9] at H
       have bB := dT b9
       clear b9
       (first | rw [bB] | (simp only [Zcq, i32_w]; rw [bB]) | skip)
       have H' := mA H
       clear H
       go_wp2
       go_meet
       case rel => exact ⟨_, (true), (eW), H', ⟨by have := aR.out; have := aT.out; first | omega | exact Nat.le_refl _⟩, ⟨rP A.out⟩, ⟨rP s.out⟩, ⟨rP r.out⟩, ⟨sP q.out⟩, ⟨rP j.out⟩, ⟨bP l.out⟩, ⟨bP c.out⟩, ⟨bP m.out⟩, ⟨bP d.out⟩, ⟨bW⟩⟩
      rw [if_neg b9] at H
      have bB := dF b9
      clear b9
      (first | rw [bB] | (simp only [Zcq, i32_w]; rw [bB]) | skip)
      obtain ⟨gL, H⟩ := gE H
      obtain ⟨d3, fZ, H⟩ := bA H
      have H' := mA H
      clear H
      obtain ⟨he, hf, e8⟩ := zP A.out
      subst e8
      have cA : 0 ≤ (E : Int) := ofD
      have cC : E < (D.length : Int) := ofD
      obtain ⟨gM, e9, fM⟩ := zO (zJ A.out).2.2 E cA cC
      cases e9
      replace cA := eq_true cA
      replace cC := eq_true cC
      go_wp2_with (first | (go_at_call 43; (with_reducible refine (Za5.calls (rd D E) T d3 _ fZ.out).mono ?_); rintro e w' ⟨rfl, ⟨nd, rfl⟩⟩))
      go_meet
      case rel => exact ⟨_, (d3), (eW), H', ⟨by have := aR.out; have := aT.out; first | omega | exact Nat.le_refl _⟩, ⟨rP A.out⟩, ⟨rP s.out⟩, ⟨rP r.out⟩, ⟨sP q.out⟩, ⟨rP j.out⟩, ⟨bP l.out⟩, ⟨bP c.out⟩, ⟨bP m.out⟩, ⟨bP d.out⟩, ⟨bW⟩⟩
     case rest =>
      clear cz cM ee ef eg eh ei ej dv dw dx dy dz dA dB dC bF aZ a0 ci ck cn cj cm co
      obtain ⟨kq, bz, rfl, HA, aQ, A, s, r, q, j, l, c, m, d, HB⟩ := hcut
      cases kq with
      | zero => exact absurd HA.out (by simp [Zak.j2])
      | succ cp =>
       have H := HA.out
       clear HA
       simp only [Zak.j2] at H
       by_cases cU : bz = true
       ·subst cU
        rw [if_pos rfl] at H
        by_cases cV : ac.length < 17592186044416; rotate_left
        ·rw [if_neg cV] at H
         exact absurd H (by simp)
        rw [if_pos cV] at H
        have ek := mA cV
        clear cV
        obtain ⟨fa, cW⟩ := nm ((ac ++ [(-1)]) : List Int)
        rw [← cW.out] at H
        have H' := mA H
        clear H
        go_wp2_with (first | ((with_reducible refine Za6 (b := .append) (xs := #[.tmp 56, .tmp 57]) rfl ?_); at_builtin; refine yO (Kd.int .i64) (w0 := w) w.heap.size rfl (.tmp 56) (.tmp 57) 22 2 (.int .i64 0) 8 rfl Tryd.underlying22 Zci rfl (by decide) (by omega) u10 ac (-1) [.int .i64 (-1)] (fun k_ => some k_ ≠ (u7 : Value).ownBlock ∧ some k_ ≠ (.slice (some Y) x.length aq : Value).ownBlock) (fun _ => False) rfl rfl ?aP (fun _ hk => hk.elim) ?aF ?aO ?aB ?aS ?aL ?_; (case aP => exact rfl); (case aB => exact (bW)); (case aF => exact (fun k_ hk => ⟨zT (zI (rP A.out)) k_ hk, zT (zI (rP s.out)) k_ hk⟩)); (case aO => exact (rP r.out)); (case aS => exact (Zaj (bW))); (case aL => have := ek.out; omega); intro hh hx ho hb hg hat; rw [← cW.out] at ho; replace A := mA (zR (ok := (fun k_ => some k_ ≠ (.slice (some Y) x.length aq : Value).ownBlock)) (rP A.out) hg hat); replace s := mA (zR (ok := (fun k_ => some k_ ≠ (u7 : Value).ownBlock)) (rP s.out) hg hat); replace q := mA (yJ (ok := (fun k_ => some k_ ≠ (u7 : Value).ownBlock ∧ some k_ ≠ (.slice (some Y) x.length aq : Value).ownBlock)) (by (with_reducible repeat (first | apply zL | apply zM | apply zH)); exact zG q.out (fun _ hk => ⟨⟨hk.1, hk.2.1⟩, hk.2.2⟩)) hg hat); replace j := mA (yB (rP j.out) (zY (rP r.out)) (by decide) hg); replace l := mA (Zah (g := ap) (o := .cells #[.int .i64 ag, .slice av ad.length aw] 30 (0, 0)) (bP l.out) hg (zN r.out l.out (by decide))); replace c := mA (Zah (g := J) (o := .cells #[.int .i64 y, .int .i64 W, .int .i64 aa, .slice (some aG) G.length ao] 39 (0, 0)) (bP c.out) hg (zN r.out c.out (by decide))); replace m := mA (Zah (g := X) (o := .cells #[.int .i64 0, .slice none 0 0, .slice none 0 0] 66 (0, 0)) (bP m.out) hg (zN r.out m.out (by decide))); replace d := mA (Zah (g := u) (o := .cells #[.int .i64 y, L, I] 66 (0, 0)) (bP d.out) hg (zN r.out d.out (by decide))); replace HB := mA (hb); have el := mA (ho); clear r ho hb hg hat))
        go_roundg cp
        case measure => have := aR.out; have := aT.out; have := aQ.out; omega
        case rel => exact ⟨(D), (x), (fa), (wrap64 (T + 1)), (eW), H', ⟨by have := aR.out; have := aT.out; have := aQ.out; omega⟩, ⟨rP A.out⟩, ⟨rP s.out⟩, ⟨rP el.out⟩, ⟨by (with_reducible repeat (first | apply zL | apply zM | apply zH)); exact zG q.out (fun _ hk => ⟨hk.1.1, ⟨hk.1.2, hk.2⟩⟩)⟩, ⟨rP j.out⟩, ⟨bP l.out⟩, ⟨bP c.out⟩, ⟨bP m.out⟩, ⟨bP d.out⟩, ⟨bW⟩⟩
       replace cU := Bool.eq_false_iff.mpr cU
       subst cU
       rw [iF] at H
       obtain ⟨em, H⟩ := gE H
       obtain ⟨en, H⟩ := gE H
       obtain ⟨aU, f0, H⟩ := bA H
       have H' := mA H
       clear H
       try go_wp2
       replace A := mA (zA A.out)
       replace s := mA (zA s.out)
       replace r := mA (zA r.out)
       replace q := mA (zH q.out)
       replace j := mA (zA j.out)
       replace l := mA (Zaa l.out)
       replace c := mA (Zaa c.out)
       replace m := mA (Zaa m.out)
       replace d := mA (Zaa d.out)
       replace HB := mA (Za1 HB.out)
       obtain ⟨hj, aX, d4⟩ := zP A.out
       (first | subst d4 | (injection d4 with bp bQ bq; have bR := bp.symm; have bS := bq.symm; clear bp bQ bq; subst bR; subst bS))
       have cq : 0 ≤ (E : Int) := ofD
       have cr : E < (D.length : Int) := ofD
       obtain ⟨aA, fb, bG⟩ := zO (zJ A.out).2.2 E cq cr
       cases fb
       replace cq := eq_true cq
       replace cr := eq_true cr
       refine Zck (n := 8) (S := fun w' => w'.cell? ⟨ap, 0, none⟩ = some (.int .i64 ag) ∧ w'.cell? ⟨ap, 1, none⟩ = some (.slice av ad.length aw) ∧ w'.cell? (aA.add (E).toNat) = some (.int .i64 (rd D E))) (ds := []) #[false, false, false, false, false, false, false, false] (by kernel_rfl) rfl rfl ⟨bc l 0, bc l 1, bG⟩ (fun hHeld => ?_); refine Zb5 Zak.tab13 Zak.bits13 (fun HT_ HW_ => ?_)
       generalize wc.drew = w49 at A s r q j l c m d HB bG hHeld ⊢
       refine Zas (i := 1) (N := some 60) (Zap HT_.out (by kernel_rfl)) ?_
       refine Zas (i := 2) (N := some 61) (Zap HT_.out (by kernel_rfl)) ?_
       refine Zas (i := 3) (N := some 62) (Zap HT_.out (by kernel_rfl)) ?_
       refine Zas (i := 5) (N := some 64) (Zap HT_.out (by kernel_rfl)) ?_
       refine Zbg (i := 0) (N := some 59) (Za0 HT_.out HW_.out (by kernel_rfl)) hHeld ?_
       refine Zbg (i := 4) (N := some 63) (Za0 HT_.out HW_.out (by kernel_rfl)) hHeld ?_
       refine one_ (i := 6) (N := some 65) #[true, true, true, true, true, true, true, false] rfl rfl (Zbe HT_.out (by kernel_rfl)) (by decide) (fun K hK => ?_)
       refine goes_ Tryd.func44 (by kernel_rfl) rfl #[.agg #[.int .i64 ag, .slice av ad.length aw], .int .i64 (rd D E), .int .i64 T] (by rfl) rfl rfl (by (try simp only [List.map_toArray, List.map_cons, List.map_nil]); first | done | rfl | (simp only [List.length_drop, List.length_take]; rfl)) ?_
       with_reducible refine (Zbp.calls cp ag _ _ ad (rd D E) T aU _ ?side1 ?side2 f0.out).mono ?_
       (case side1 => exact cP (zQ d5.out HB.out))
       (case side2 => exact d6.out)
       rintro e hy ⟨rfl, hb⟩
       have fc := (hb.cell (World.block_lt_of_cell? _ _ (hHeld.2.2))).trans (hHeld.2.2)
       refine ⟨_, rfl, ?_⟩
       replace A := mA (zK (rP A.out) hb)
       replace s := mA (zK (rP s.out) hb)
       replace r := mA (zK (rP r.out) hb)
       replace q := mA (zW (sP q.out) hb)
       replace j := mA (zK (rP j.out) hb)
       replace l := mA (blkB l.out hb)
       replace c := mA (blkB c.out hb)
       replace m := mA (blkB m.out hb)
       replace d := mA (blkB d.out hb)
       replace HB := mA (Zaf (bW) hb)
       (try clear hb)
       (try clear hb2)
       (try clear hk)
       (try clear hi)
       refine hK.out _ _ ⟨bc l 0, bc l 1, fc⟩ (fun hHeld => ?_)
       clear hK K
       refine putS 65 ?_
       refine Zas (i := 7) (N := some 13) (Zap HT_.out (by kernel_rfl)) ?_
       refine done_ (Zcs HT_.out (by kernel_rfl)) ?_
       try go_wp2
       go_loopg [14] cp (fun kq v14 w' => ∃ (z : Int), v14 = .int .i64 z ∧ Zac (Zak.l2 kq D x E ac T (rd (Zam G (rd x E)) T) aU z ag ad y W aa G y O P = some (r1, r2, r3, r4)) ∧ Zac (kq ≤ cp) ∧ Zac (Kd.R (Kd.int .i64) 2 w' w.heap.size (fun k_ => some k_ ≠ ((.slice (some Y) x.length aq) : Value).ownBlock ∧ some k_ ≠ (u10 : Value).ownBlock) (.slice (some aA) D.length aX) D) ∧ Zac (Kd.R (Kd.int .i64) 2 w' w.heap.size (fun k_ => some k_ ≠ ((.slice (some aA) D.length aX) : Value).ownBlock ∧ some k_ ≠ (u10 : Value).ownBlock) (.slice (some Y) x.length aq) x) ∧ Zac (Kd.R (Kd.int .i64) 2 w' w.heap.size (fun k_ => some k_ ≠ ((.slice (some aA) D.length aX) : Value).ownBlock ∧ some k_ ≠ ((.slice (some Y) x.length aq) : Value).ownBlock) u10 ac) ∧ Zac (Kd.S (Kd.slice 2 (Kd.int .i64)) 22 w' w.heap.size (fun k_ => some k_ ≠ ((.slice (some aA) D.length aX) : Value).ownBlock ∧ some k_ ≠ ((.slice (some Y) x.length aq) : Value).ownBlock ∧ some k_ ≠ (u10 : Value).ownBlock) L O) ∧ Zac (Kd.R Kd.bool 4 w' w.heap.size (fun _ => True) I P) ∧ Zac (w'.heap[ap]? = some (.cells #[.int .i64 ag, (.slice av ad.length aw)] 30 (0, 0))) ∧ Zac (w'.heap[J]? = some (.cells #[.int .i64 y, .int .i64 W, .int .i64 aa, (.slice (some aG) G.length ao)] 39 (0, 0))) ∧ Zac (w'.heap[X]? = some (.cells #[.int .i64 0, (.slice none 0 0), (.slice none 0 0)] 66 (0, 0))) ∧ Zac (w'.heap[u]? = some (.cells #[.int .i64 y, L, I] 66 (0, 0))) ∧ Zac (Below w.heap.size w w'))
       case atStart => exact ⟨(0), (eW), H', ⟨Nat.le_refl _⟩, ⟨rP A.out⟩, ⟨rP s.out⟩, ⟨rP r.out⟩, ⟨sP q.out⟩, ⟨rP j.out⟩, ⟨bP l.out⟩, ⟨bP c.out⟩, ⟨bP m.out⟩, ⟨bP d.out⟩, ⟨bW⟩⟩
       case round =>
        clear H' em en bG cq cr
        obtain ⟨z, rfl, HA, bl, A, s, r, q, j, l, c, m, d, HB⟩ := hrel
        cases gk with
        | zero => exact absurd HA.out (by simp [Zak.l2])
        | succ k4 =>
         have H := HA.out
         clear HA
         simp only [Zak.l2] at H
         by_cases ca : z < (D.length : Int); rotate_left
         ·rw [if_neg ca] at H
          have eo := dF ca
          clear ca
          by_cases bV : z = (D.length : Int); rotate_left
          ·rw [if_neg bV] at H
           have ep : (z == (D.length : Int)) = false := beq_eq_false_iff_ne.mpr bV
           have er : (z != (D.length : Int)) = true := bne_iff_ne.mpr bV
           by_cases cX : ac.length < 17592186044416; rotate_left
           ·rw [if_neg cX] at H
            exact absurd H (by simp)
           rw [if_pos cX] at H
           have es := mA cX
           clear cX
           obtain ⟨fd, cY⟩ := nm ((ac ++ [z]) : List Int)
           rw [← cY.out] at H
           have H' := mA H
           clear H
           go_wp2_with (first | ((with_reducible refine Za6 (b := .append) (xs := #[.tmp 100, .tmp 102]) rfl ?_); at_builtin; refine yO (Kd.int .i64) (w0 := w) w.heap.size rfl (.tmp 100) (.tmp 102) 22 2 (.int .i64 0) 8 rfl Tryd.underlying22 Zci rfl (by decide) (by omega) u10 ac z [.int .i64 z] (fun k_ => some k_ ≠ (.slice (some aA) D.length aX : Value).ownBlock ∧ some k_ ≠ (.slice (some Y) x.length aq : Value).ownBlock) (fun _ => False) rfl rfl ?aP (fun _ hk => hk.elim) ?aF ?aO ?aB ?aS ?aL ?_; (case aP => exact rfl); (case aB => exact (bW)); (case aF => exact (fun k_ hk => ⟨zT (zI (rP A.out)) k_ hk, zT (zI (rP s.out)) k_ hk⟩)); (case aO => exact (rP r.out)); (case aS => exact (Zaj (bW))); (case aL => have := es.out; omega); intro hl hz ho hb hg hat; rw [← cY.out] at ho; replace A := mA (zR (ok := (fun k_ => some k_ ≠ (.slice (some Y) x.length aq : Value).ownBlock)) (rP A.out) hg hat); replace s := mA (zR (ok := (fun k_ => some k_ ≠ (.slice (some aA) D.length aX : Value).ownBlock)) (rP s.out) hg hat); replace q := mA (yJ (ok := (fun k_ => some k_ ≠ (.slice (some aA) D.length aX : Value).ownBlock ∧ some k_ ≠ (.slice (some Y) x.length aq : Value).ownBlock)) (by (with_reducible repeat (first | apply zL | apply zM | apply zH)); exact zG q.out (fun _ hk => ⟨⟨hk.1, hk.2.1⟩, hk.2.2⟩)) hg hat); replace j := mA (yB (rP j.out) (zY (rP r.out)) (by decide) hg); replace l := mA (Zah (g := ap) (o := .cells #[.int .i64 ag, .slice av ad.length aw] 30 (0, 0)) (bP l.out) hg (zN r.out l.out (by decide))); replace c := mA (Zah (g := J) (o := .cells #[.int .i64 y, .int .i64 W, .int .i64 aa, .slice (some aG) G.length ao] 39 (0, 0)) (bP c.out) hg (zN r.out c.out (by decide))); replace m := mA (Zah (g := X) (o := .cells #[.int .i64 0, .slice none 0 0, .slice none 0 0] 66 (0, 0)) (bP m.out) hg (zN r.out m.out (by decide))); replace d := mA (Zah (g := u) (o := .cells #[.int .i64 y, L, I] 66 (0, 0)) (bP d.out) hg (zN r.out d.out (by decide))); replace HB := mA (hb); have et := mA (ho); clear r ho hb hg hat))
           go_roundg k4
           case measure => have := aR.out; have := aT.out; have := aQ.out; have := bl.out; omega
           case rel => exact ⟨(D), (x), (fd), (wrap64 (T + 1)), (eW), H', ⟨by have := aR.out; have := aT.out; have := aQ.out; have := bl.out; omega⟩, ⟨rP A.out⟩, ⟨rP s.out⟩, ⟨rP et.out⟩, ⟨by (with_reducible repeat (first | apply zL | apply zM | apply zH)); exact zG q.out (fun _ hk => ⟨hk.1.1, ⟨hk.1.2, hk.2⟩⟩)⟩, ⟨rP j.out⟩, ⟨bP l.out⟩, ⟨bP c.out⟩, ⟨bP m.out⟩, ⟨bP d.out⟩, ⟨bW⟩⟩
          rw [if_pos bV] at H
          have ep : (z == (D.length : Int)) = true := beq_iff_eq.mpr bV
          have er : (z != (D.length : Int)) = false := bne_eq_false_iff_eq.mpr bV
          clear bV
          by_cases cZ : D.length < 17592186044416; rotate_left
          ·rw [if_neg cZ] at H
           exact absurd H (by simp)
          rw [if_pos cZ] at H
          have eu := mA cZ
          clear cZ
          obtain ⟨fe, c0⟩ := nm ((D ++ [aU]) : List Int)
          rw [← c0.out] at H
          by_cases c1 : x.length < 17592186044416; rotate_left
          ·rw [if_neg c1] at H
           exact absurd H (by simp)
          rw [if_pos c1] at H
          have ev := mA c1
          clear c1
          obtain ⟨ff, da⟩ := nm ((x ++ [(rd (Zam G (rd x E)) T)]) : List Int)
          rw [← da.out] at H
          by_cases db : ac.length < 17592186044416; rotate_left
          ·rw [if_neg db] at H
           exact absurd H (by simp)
          rw [if_pos db] at H
          have ew := mA db
          clear db
          obtain ⟨fg, dc⟩ := nm ((ac ++ [z]) : List Int)
          rw [← dc.out] at H
          have H' := mA H
          clear H
          go_wp2_with (first | ((with_reducible refine Za6 (b := .append) (xs := #[.tmp 92, .tmp 94]) rfl ?_); at_builtin; refine yO (Kd.int .i64) (w0 := w) w.heap.size rfl (.tmp 92) (.tmp 94) 22 2 (.int .i64 0) 8 rfl Tryd.underlying22 Zci rfl (by decide) (by omega) (.slice (some aA) D.length aX) D aU [.int .i64 aU] (fun k_ => some k_ ≠ (.slice (some Y) x.length aq : Value).ownBlock ∧ some k_ ≠ (u10 : Value).ownBlock) (fun _ => False) rfl rfl ?aP (fun _ hk => hk.elim) ?aF ?aO ?aB ?aS ?aL ?_; (case aP => exact rfl); (case aB => exact (bW)); (case aF => exact (fun k_ hk => ⟨zT (zI (rP s.out)) k_ hk, zT (zI (rP r.out)) k_ hk⟩)); (case aO => exact (rP A.out)); (case aS => exact (Zaj (bW))); (case aL => have := eu.out; omega); intro bH hA ho hb hg hat; rw [← c0.out] at ho; replace s := mA (zR (ok := (fun k_ => some k_ ≠ (u10 : Value).ownBlock)) (by (with_reducible repeat (first | apply zC | apply zD | apply zA)); exact zB s.out (fun _ hk => ⟨hk.2, hk.1⟩)) hg hat); replace r := mA (zR (ok := (fun k_ => some k_ ≠ (.slice (some Y) x.length aq : Value).ownBlock)) (by (with_reducible repeat (first | apply zC | apply zD | apply zA)); exact zB r.out (fun _ hk => ⟨hk.2, hk.1⟩)) hg hat); replace q := mA (yJ (ok := (fun k_ => some k_ ≠ (.slice (some Y) x.length aq : Value).ownBlock ∧ some k_ ≠ (u10 : Value).ownBlock)) (by (with_reducible repeat (first | apply zL | apply zM | apply zH)); exact zG q.out (fun _ hk => ⟨⟨hk.2.1, hk.2.2⟩, hk.1⟩)) hg hat); replace j := mA (yB (rP j.out) (zY (rP A.out)) (by decide) hg); replace l := mA (Zah (g := ap) (o := .cells #[.int .i64 ag, .slice av ad.length aw] 30 (0, 0)) (bP l.out) hg (zN A.out l.out (by decide))); replace c := mA (Zah (g := J) (o := .cells #[.int .i64 y, .int .i64 W, .int .i64 aa, .slice (some aG) G.length ao] 39 (0, 0)) (bP c.out) hg (zN A.out c.out (by decide))); replace m := mA (Zah (g := X) (o := .cells #[.int .i64 0, .slice none 0 0, .slice none 0 0] 66 (0, 0)) (bP m.out) hg (zN A.out m.out (by decide))); replace d := mA (Zah (g := u) (o := .cells #[.int .i64 y, L, I] 66 (0, 0)) (bP d.out) hg (zN A.out d.out (by decide))); replace HB := mA (hb); have bi := mA (ho); clear A ho hb hg hat) | ((with_reducible refine Za6 (b := .append) (xs := #[.tmp 96, .tmp 98]) rfl ?_); at_builtin; refine yO (Kd.int .i64) (w0 := w) w.heap.size rfl (.tmp 96) (.tmp 98) 22 2 (.int .i64 0) 8 rfl Tryd.underlying22 Zci rfl (by decide) (by omega) (.slice (some Y) x.length aq) x (rd (Zam G (rd x E)) T) [.int .i64 (rd (Zam G (rd x E)) T)] (fun k_ => some k_ ≠ (u10 : Value).ownBlock ∧ some k_ ≠ (bH : Value).ownBlock) (fun _ => False) rfl rfl ?aP (fun _ hk => hk.elim) ?aF ?aO ?aB ?aS ?aL ?_; (case aP => exact rfl); (case aB => exact (bW)); (case aF => exact (fun k_ hk => ⟨zT (zI (rP r.out)) k_ hk, zT (zI (rP bi.out)) k_ hk⟩)); (case aO => exact (rP s.out)); (case aS => exact (Zaj (bW))); (case aL => have := ev.out; omega); intro cD hB ho hb hg hat; rw [← da.out] at ho; replace r := mA (zR (ok := (fun k_ => some k_ ≠ (bH : Value).ownBlock)) (by (with_reducible repeat (first | apply zC | apply zD | apply zA)); exact zB r.out (fun _ hk => ⟨hk.2, hk.1⟩)) hg hat); replace q := mA (yJ (ok := (fun k_ => some k_ ≠ (u10 : Value).ownBlock ∧ some k_ ≠ (bH : Value).ownBlock)) (by (with_reducible repeat (first | apply zL | apply zM | apply zH)); exact zG q.out (fun _ hk => ⟨⟨hk.1.2, hk.2⟩, hk.1.1⟩)) hg hat); replace j := mA (yB (rP j.out) (zY (rP s.out)) (by decide) hg); replace l := mA (Zah (g := ap) (o := .cells #[.int .i64 ag, .slice av ad.length aw] 30 (0, 0)) (bP l.out) hg (zN s.out l.out (by decide))); replace c := mA (Zah (g := J) (o := .cells #[.int .i64 y, .int .i64 W, .int .i64 aa, .slice (some aG) G.length ao] 39 (0, 0)) (bP c.out) hg (zN s.out c.out (by decide))); replace m := mA (Zah (g := X) (o := .cells #[.int .i64 0, .slice none 0 0, .slice none 0 0] 66 (0, 0)) (bP m.out) hg (zN s.out m.out (by decide))); replace d := mA (Zah (g := u) (o := .cells #[.int .i64 y, L, I] 66 (0, 0)) (bP d.out) hg (zN s.out d.out (by decide))); replace bi := mA (zR (ok := (fun k_ => some k_ ≠ (u10 : Value).ownBlock)) (by (with_reducible repeat (first | apply zC | apply zD | apply zA)); exact zB bi.out (fun _ hk => ⟨hk.2, hk.1⟩)) hg hat); replace HB := mA (hb); have bM := mA (ho); clear s ho hb hg hat) | ((with_reducible refine Za6 (b := .append) (xs := #[.tmp 100, .tmp 102]) rfl ?_); at_builtin; refine yO (Kd.int .i64) (w0 := w) w.heap.size rfl (.tmp 100) (.tmp 102) 22 2 (.int .i64 0) 8 rfl Tryd.underlying22 Zci rfl (by decide) (by omega) u10 ac z [.int .i64 z] (fun k_ => some k_ ≠ (bH : Value).ownBlock ∧ some k_ ≠ (cD : Value).ownBlock) (fun _ => False) rfl rfl ?aP (fun _ hk => hk.elim) ?aF ?aO ?aB ?aS ?aL ?_; (case aP => exact rfl); (case aB => exact (bW)); (case aF => exact (fun k_ hk => ⟨zT (zI (rP bi.out)) k_ hk, zT (zI (rP bM.out)) k_ hk⟩)); (case aO => exact (rP r.out)); (case aS => exact (Zaj (bW))); (case aL => have := ew.out; omega); intro hm hC ho hb hg hat; rw [← dc.out] at ho; replace q := mA (yJ (ok := (fun k_ => some k_ ≠ (bH : Value).ownBlock ∧ some k_ ≠ (cD : Value).ownBlock)) (by (with_reducible repeat (first | apply zL | apply zM | apply zH)); exact zG q.out (fun _ hk => ⟨⟨hk.1.2, hk.2⟩, hk.1.1⟩)) hg hat); replace j := mA (yB (rP j.out) (zY (rP r.out)) (by decide) hg); replace l := mA (Zah (g := ap) (o := .cells #[.int .i64 ag, .slice av ad.length aw] 30 (0, 0)) (bP l.out) hg (zN r.out l.out (by decide))); replace c := mA (Zah (g := J) (o := .cells #[.int .i64 y, .int .i64 W, .int .i64 aa, .slice (some aG) G.length ao] 39 (0, 0)) (bP c.out) hg (zN r.out c.out (by decide))); replace m := mA (Zah (g := X) (o := .cells #[.int .i64 0, .slice none 0 0, .slice none 0 0] 66 (0, 0)) (bP m.out) hg (zN r.out m.out (by decide))); replace d := mA (Zah (g := u) (o := .cells #[.int .i64 y, L, I] 66 (0, 0)) (bP d.out) hg (zN r.out d.out (by decide))); replace bi := mA (zR (ok := (fun k_ => some k_ ≠ (cD : Value).ownBlock)) (by (with_reducible repeat (first | apply zC | apply zD | apply zA)); exact zB bi.out (fun _ hk => ⟨hk.2, hk.1⟩)) hg hat); replace bM := mA (zR (ok := (fun k_ => some k_ ≠ (bH : Value).ownBlock)) (by (with_reducible repeat (first | apply zC | apply zD | apply zA)); exact zB bM.out (fun _ hk => ⟨hk.2, hk.1⟩)) hg hat); replace HB := mA (hb); have ey := mA (ho); clear r ho hb hg hat))
          go_roundg k4
          case measure => have := aR.out; have := aT.out; have := aQ.out; have := bl.out; omega
          case rel => exact ⟨(fe), (ff), (fg), (wrap64 (T + 1)), (eW), H', ⟨by have := aR.out; have := aT.out; have := aQ.out; have := bl.out; omega⟩, ⟨rP bi.out⟩, ⟨rP bM.out⟩, ⟨rP ey.out⟩, ⟨by (with_reducible repeat (first | apply zL | apply zM | apply zH)); exact zG q.out (fun _ hk => ⟨hk.1.1, ⟨hk.1.2, hk.2⟩⟩)⟩, ⟨rP j.out⟩, ⟨bP l.out⟩, ⟨bP c.out⟩, ⟨bP m.out⟩, ⟨bP d.out⟩, ⟨bW⟩⟩
         rw [if_pos ca] at H
         have eo := dT ca
         clear ca
         obtain ⟨gN, H⟩ := gE H
         by_cases bX : (rd D z) = aU; rotate_left
         ·rw [if_neg bX] at H
          have ez : ((rd D z) == aU) = false := beq_eq_false_iff_ne.mpr bX
          have eA : ((rd D z) != aU) = true := bne_iff_ne.mpr bX
          have H' := mA H
          clear H
          have aH : 0 ≤ (z : Int) := ofD
          have aI : z < (D.length : Int) := ofD
          obtain ⟨bj, bu, bI⟩ := zO (zJ A.out).2.2 z aH aI
          obtain rfl : aA = bj := (by injection bu)
          replace aH := eq_true aH
          replace aI := eq_true aI
          go_wp2
          go_roundg k4
          case measure => have := aR.out; have := aT.out; have := aQ.out; have := bl.out; omega
          case rel => exact ⟨(wrap64 (z + 1)), (eW), H', ⟨by have := aR.out; have := aT.out; have := aQ.out; have := bl.out; omega⟩, ⟨rP A.out⟩, ⟨rP s.out⟩, ⟨rP r.out⟩, ⟨sP q.out⟩, ⟨rP j.out⟩, ⟨bP l.out⟩, ⟨bP c.out⟩, ⟨bP m.out⟩, ⟨bP d.out⟩, ⟨bW⟩⟩
         rw [if_pos bX] at H
         have ez : ((rd D z) == aU) = true := beq_iff_eq.mpr bX
         have eA : ((rd D z) != aU) = false := bne_eq_false_iff_eq.mpr bX
         clear bX
         obtain ⟨gO, H⟩ := gE H
         by_cases bY : (rd x z) = (rd (Zam G (rd x E)) T); rotate_left
         ·rw [if_neg bY] at H
          have eB : ((rd x z) == (rd (Zam G (rd x E)) T)) = false := beq_eq_false_iff_ne.mpr bY
          have eC : ((rd x z) != (rd (Zam G (rd x E)) T)) = true := bne_iff_ne.mpr bY
          have H' := mA H
          clear H
          have aH : 0 ≤ (z : Int) := ofD
          have aI : z < (D.length : Int) := ofD
          obtain ⟨bj, bu, bI⟩ := zO (zJ A.out).2.2 z aH aI
          obtain rfl : aA = bj := (by injection bu)
          replace aH := eq_true aH
          replace aI := eq_true aI
          have a1 : 0 ≤ (z : Int) := ofD
          have a2 : z < (x.length : Int) := ofD
          obtain ⟨bC, bZ, cb⟩ := zO (zJ s.out).2.2 z a1 a2
          obtain rfl : Y = bC := (by injection bZ)
          replace a1 := eq_true a1
          replace a2 := eq_true a2
          go_wp2
          go_roundg k4
          case measure => have := aR.out; have := aT.out; have := aQ.out; have := bl.out; omega
          case rel => exact ⟨(wrap64 (z + 1)), (eW), H', ⟨by have := aR.out; have := aT.out; have := aQ.out; have := bl.out; omega⟩, ⟨rP A.out⟩, ⟨rP s.out⟩, ⟨rP r.out⟩, ⟨sP q.out⟩, ⟨rP j.out⟩, ⟨bP l.out⟩, ⟨bP c.out⟩, ⟨bP m.out⟩, ⟨bP d.out⟩, ⟨bW⟩⟩
         rw [if_pos bY] at H
         have eB : ((rd x z) == (rd (Zam G (rd x E)) T)) = true := beq_iff_eq.mpr bY
         have eC : ((rd x z) != (rd (Zam G (rd x E)) T)) = false := bne_eq_false_iff_eq.mpr bY
         clear bY
         by_cases b0 : z = (D.length : Int); rotate_left
         ·rw [if_neg b0] at H
          have eD : (z == (D.length : Int)) = false := beq_eq_false_iff_ne.mpr b0
          have eE : (z != (D.length : Int)) = true := bne_iff_ne.mpr b0
          by_cases dd : ac.length < 17592186044416; rotate_left
          ·rw [if_neg dd] at H
           exact absurd H (by simp)
          rw [if_pos dd] at H
          have eF := mA dd
          clear dd
          obtain ⟨fh, de⟩ := nm ((ac ++ [z]) : List Int)
          rw [← de.out] at H
          have H' := mA H
          clear H
          have aH : 0 ≤ (z : Int) := ofD
          have aI : z < (D.length : Int) := ofD
          obtain ⟨bj, bu, bI⟩ := zO (zJ A.out).2.2 z aH aI
          obtain rfl : aA = bj := (by injection bu)
          replace aH := eq_true aH
          replace aI := eq_true aI
          have a1 : 0 ≤ (z : Int) := ofD
          have a2 : z < (x.length : Int) := ofD
          obtain ⟨bC, bZ, cb⟩ := zO (zJ s.out).2.2 z a1 a2
          obtain rfl : Y = bC := (by injection bZ)
          replace a1 := eq_true a1
          replace a2 := eq_true a2
          go_wp2_with (first | ((with_reducible refine Za6 (b := .append) (xs := #[.tmp 100, .tmp 102]) rfl ?_); at_builtin; refine yO (Kd.int .i64) (w0 := w) w.heap.size rfl (.tmp 100) (.tmp 102) 22 2 (.int .i64 0) 8 rfl Tryd.underlying22 Zci rfl (by decide) (by omega) u10 ac z [.int .i64 z] (fun k_ => some k_ ≠ (.slice (some aA) D.length aX : Value).ownBlock ∧ some k_ ≠ (.slice (some Y) x.length aq : Value).ownBlock) (fun _ => False) rfl rfl ?aP (fun _ hk => hk.elim) ?aF ?aO ?aB ?aS ?aL ?_; (case aP => exact rfl); (case aB => exact (bW)); (case aF => exact (fun k_ hk => ⟨zT (zI (rP A.out)) k_ hk, zT (zI (rP s.out)) k_ hk⟩)); (case aO => exact (rP r.out)); (case aS => exact (Zaj (bW))); (case aL => have := eF.out; omega); intro hn hD ho hb hg hat; rw [← de.out] at ho; replace A := mA (zR (ok := (fun k_ => some k_ ≠ (.slice (some Y) x.length aq : Value).ownBlock)) (rP A.out) hg hat); replace s := mA (zR (ok := (fun k_ => some k_ ≠ (.slice (some aA) D.length aX : Value).ownBlock)) (rP s.out) hg hat); replace q := mA (yJ (ok := (fun k_ => some k_ ≠ (.slice (some aA) D.length aX : Value).ownBlock ∧ some k_ ≠ (.slice (some Y) x.length aq : Value).ownBlock)) (by (with_reducible repeat (first | apply zL | apply zM | apply zH)); exact zG q.out (fun _ hk => ⟨⟨hk.1, hk.2.1⟩, hk.2.2⟩)) hg hat); replace j := mA (yB (rP j.out) (zY (rP r.out)) (by decide) hg); replace l := mA (Zah (g := ap) (o := .cells #[.int .i64 ag, .slice av ad.length aw] 30 (0, 0)) (bP l.out) hg (zN r.out l.out (by decide))); replace c := mA (Zah (g := J) (o := .cells #[.int .i64 y, .int .i64 W, .int .i64 aa, .slice (some aG) G.length ao] 39 (0, 0)) (bP c.out) hg (zN r.out c.out (by decide))); replace m := mA (Zah (g := X) (o := .cells #[.int .i64 0, .slice none 0 0, .slice none 0 0] 66 (0, 0)) (bP m.out) hg (zN r.out m.out (by decide))); replace d := mA (Zah (g := u) (o := .cells #[.int .i64 y, L, I] 66 (0, 0)) (bP d.out) hg (zN r.out d.out (by decide))); replace HB := mA (hb); have eG := mA (ho); clear r ho hb hg hat))
          go_roundg k4
          case measure => have := aR.out; have := aT.out; have := aQ.out; have := bl.out; omega
          case rel => exact ⟨(D), (x), (fh), (wrap64 (T + 1)), (eW), H', ⟨by have := aR.out; have := aT.out; have := aQ.out; have := bl.out; omega⟩, ⟨rP A.out⟩, ⟨rP s.out⟩, ⟨rP eG.out⟩, ⟨by (with_reducible repeat (first | apply zL | apply zM | apply zH)); exact zG q.out (fun _ hk => ⟨hk.1.1, ⟨hk.1.2, hk.2⟩⟩)⟩, ⟨rP j.out⟩, ⟨bP l.out⟩, ⟨bP c.out⟩, ⟨bP m.out⟩, ⟨bP d.out⟩, ⟨bW⟩⟩
         rw [if_pos b0] at H
         have eD : (z == (D.length : Int)) = true := beq_iff_eq.mpr b0
         have eE : (z != (D.length : Int)) = false := bne_eq_false_iff_eq.mpr b0
         clear b0
         by_cases df : D.length < 17592186044416; rotate_left
         ·rw [if_neg df] at H
          exact absurd H (by simp)
         rw [if_pos df] at H
         have eH := mA df
         clear df
         obtain ⟨fi, dg⟩ := nm ((D ++ [aU]) : List Int)
         rw [← dg.out] at H
         by_cases dh : x.length < 17592186044416; rotate_left
         ·rw [if_neg dh] at H
          exact absurd H (by simp)
         rw [if_pos dh] at H
         have eI := mA dh
         clear dh
         obtain ⟨fj, di⟩ := nm ((x ++ [(rd (Zam G (rd x E)) T)]) : List Int)
         rw [← di.out] at H
         by_cases dj : ac.length < 17592186044416; rotate_left
         ·rw [if_neg dj] at H
          exact absurd H (by simp)
         rw [if_pos dj] at H
         have eJ := mA dj
         clear dj
         obtain ⟨fk, dk⟩ := nm ((ac ++ [z]) : List Int)
         rw [← dk.out] at H
         have H' := mA H
         clear H
         have aH : 0 ≤ (z : Int) := ofD
         have aI : z < (D.length : Int) := ofD
         obtain ⟨bj, bu, bI⟩ := zO (zJ A.out).2.2 z aH aI
         obtain rfl : aA = bj := (by injection bu)
         replace aH := eq_true aH
         replace aI := eq_true aI
         have a1 : 0 ≤ (z : Int) := ofD
         have a2 : z < (x.length : Int) := ofD
         obtain ⟨bC, bZ, cb⟩ := zO (zJ s.out).2.2 z a1 a2
         obtain rfl : Y = bC := (by injection bZ)
         replace a1 := eq_true a1
         replace a2 := eq_true a2
         go_wp2_with (first | ((with_reducible refine Za6 (b := .append) (xs := #[.tmp 92, .tmp 94]) rfl ?_); at_builtin; refine yO (Kd.int .i64) (w0 := w) w.heap.size rfl (.tmp 92) (.tmp 94) 22 2 (.int .i64 0) 8 rfl Tryd.underlying22 Zci rfl (by decide) (by omega) (.slice (some aA) D.length aX) D aU [.int .i64 aU] (fun k_ => some k_ ≠ (.slice (some Y) x.length aq : Value).ownBlock ∧ some k_ ≠ (u10 : Value).ownBlock) (fun _ => False) rfl rfl ?aP (fun _ hk => hk.elim) ?aF ?aO ?aB ?aS ?aL ?_; (case aP => exact rfl); (case aB => exact (bW)); (case aF => exact (fun k_ hk => ⟨zT (zI (rP s.out)) k_ hk, zT (zI (rP r.out)) k_ hk⟩)); (case aO => exact (rP A.out)); (case aS => exact (Zaj (bW))); (case aL => have := eH.out; omega); intro bJ hE ho hb hg hat; rw [← dg.out] at ho; replace s := mA (zR (ok := (fun k_ => some k_ ≠ (u10 : Value).ownBlock)) (by (with_reducible repeat (first | apply zC | apply zD | apply zA)); exact zB s.out (fun _ hk => ⟨hk.2, hk.1⟩)) hg hat); replace r := mA (zR (ok := (fun k_ => some k_ ≠ (.slice (some Y) x.length aq : Value).ownBlock)) (by (with_reducible repeat (first | apply zC | apply zD | apply zA)); exact zB r.out (fun _ hk => ⟨hk.2, hk.1⟩)) hg hat); replace q := mA (yJ (ok := (fun k_ => some k_ ≠ (.slice (some Y) x.length aq : Value).ownBlock ∧ some k_ ≠ (u10 : Value).ownBlock)) (by (with_reducible repeat (first | apply zL | apply zM | apply zH)); exact zG q.out (fun _ hk => ⟨⟨hk.2.1, hk.2.2⟩, hk.1⟩)) hg hat); replace j := mA (yB (rP j.out) (zY (rP A.out)) (by decide) hg); replace l := mA (Zah (g := ap) (o := .cells #[.int .i64 ag, .slice av ad.length aw] 30 (0, 0)) (bP l.out) hg (zN A.out l.out (by decide))); replace c := mA (Zah (g := J) (o := .cells #[.int .i64 y, .int .i64 W, .int .i64 aa, .slice (some aG) G.length ao] 39 (0, 0)) (bP c.out) hg (zN A.out c.out (by decide))); replace m := mA (Zah (g := X) (o := .cells #[.int .i64 0, .slice none 0 0, .slice none 0 0] 66 (0, 0)) (bP m.out) hg (zN A.out m.out (by decide))); replace d := mA (Zah (g := u) (o := .cells #[.int .i64 y, L, I] 66 (0, 0)) (bP d.out) hg (zN A.out d.out (by decide))); replace HB := mA (hb); have bk := mA (ho); clear A ho hb hg hat) | ((with_reducible refine Za6 (b := .append) (xs := #[.tmp 96, .tmp 98]) rfl ?_); at_builtin; refine yO (Kd.int .i64) (w0 := w) w.heap.size rfl (.tmp 96) (.tmp 98) 22 2 (.int .i64 0) 8 rfl Tryd.underlying22 Zci rfl (by decide) (by omega) (.slice (some Y) x.length aq) x (rd (Zam G (rd x E)) T) [.int .i64 (rd (Zam G (rd x E)) T)] (fun k_ => some k_ ≠ (u10 : Value).ownBlock ∧ some k_ ≠ (bJ : Value).ownBlock) (fun _ => False) rfl rfl ?aP (fun _ hk => hk.elim) ?aF ?aO ?aB ?aS ?aL ?_; (case aP => exact rfl); (case aB => exact (bW)); (case aF => exact (fun k_ hk => ⟨zT (zI (rP r.out)) k_ hk, zT (zI (rP bk.out)) k_ hk⟩)); (case aO => exact (rP s.out)); (case aS => exact (Zaj (bW))); (case aL => have := eI.out; omega); intro cE hF ho hb hg hat; rw [← di.out] at ho; replace r := mA (zR (ok := (fun k_ => some k_ ≠ (bJ : Value).ownBlock)) (by (with_reducible repeat (first | apply zC | apply zD | apply zA)); exact zB r.out (fun _ hk => ⟨hk.2, hk.1⟩)) hg hat); replace q := mA (yJ (ok := (fun k_ => some k_ ≠ (u10 : Value).ownBlock ∧ some k_ ≠ (bJ : Value).ownBlock)) (by (with_reducible repeat (first | apply zL | apply zM | apply zH)); exact zG q.out (fun _ hk => ⟨⟨hk.1.2, hk.2⟩, hk.1.1⟩)) hg hat); replace j := mA (yB (rP j.out) (zY (rP s.out)) (by decide) hg); replace l := mA (Zah (g := ap) (o := .cells #[.int .i64 ag, .slice av ad.length aw] 30 (0, 0)) (bP l.out) hg (zN s.out l.out (by decide))); replace c := mA (Zah (g := J) (o := .cells #[.int .i64 y, .int .i64 W, .int .i64 aa, .slice (some aG) G.length ao] 39 (0, 0)) (bP c.out) hg (zN s.out c.out (by decide))); replace m := mA (Zah (g := X) (o := .cells #[.int .i64 0, .slice none 0 0, .slice none 0 0] 66 (0, 0)) (bP m.out) hg (zN s.out m.out (by decide))); replace d := mA (Zah (g := u) (o := .cells #[.int .i64 y, L, I] 66 (0, 0)) (bP d.out) hg (zN s.out d.out (by decide))); replace bk := mA (zR (ok := (fun k_ => some k_ ≠ (u10 : Value).ownBlock)) (by (with_reducible repeat (first | apply zC | apply zD | apply zA)); exact zB bk.out (fun _ hk => ⟨hk.2, hk.1⟩)) hg hat); replace HB := mA (hb); have bN := mA (ho); clear s ho hb hg hat) | ((with_reducible refine Za6 (b := .append) (xs := #[.tmp 100, .tmp 102]) rfl ?_); at_builtin; refine yO (Kd.int .i64) (w0 := w) w.heap.size rfl (.tmp 100) (.tmp 102) 22 2 (.int .i64 0) 8 rfl Tryd.underlying22 Zci rfl (by decide) (by omega) u10 ac z [.int .i64 z] (fun k_ => some k_ ≠ (bJ : Value).ownBlock ∧ some k_ ≠ (cE : Value).ownBlock) (fun _ => False) rfl rfl ?aP (fun _ hk => hk.elim) ?aF ?aO ?aB ?aS ?aL ?_; (case aP => exact rfl); (case aB => exact (bW)); (case aF => exact (fun k_ hk => ⟨zT (zI (rP bk.out)) k_ hk, zT (zI (rP bN.out)) k_ hk⟩)); (case aO => exact (rP r.out)); (case aS => exact (Zaj (bW))); (case aL => have := eJ.out; omega); intro hq hG ho hb hg hat; rw [← dk.out] at ho; replace q := mA (yJ (ok := (fun k_ => some k_ ≠ (bJ : Value).ownBlock ∧ some k_ ≠ (cE : Value).ownBlock)) (by (with_reducible repeat (first | apply zL | apply zM | apply zH)); exact zG q.out (fun _ hk => ⟨⟨hk.1.2, hk.2⟩, hk.1.1⟩)) hg hat); replace j := mA (yB (rP j.out) (zY (rP r.out)) (by decide) hg); replace l := mA (Zah (g := ap) (o := .cells #[.int .i64 ag, .slice av ad.length aw] 30 (0, 0)) (bP l.out) hg (zN r.out l.out (by decide))); replace c := mA (Zah (g := J) (o := .cells #[.int .i64 y, .int .i64 W, .int .i64 aa, .slice (some aG) G.length ao] 39 (0, 0)) (bP c.out) hg (zN r.out c.out (by decide))); replace m := mA (Zah (g := X) (o := .cells #[.int .i64 0, .slice none 0 0, .slice none 0 0] 66 (0, 0)) (bP m.out) hg (zN r.out m.out (by decide))); replace d := mA (Zah (g := u) (o := .cells #[.int .i64 y, L, I] 66 (0, 0)) (bP d.out) hg (zN r.out d.out (by decide))); replace bk := mA (zR (ok := (fun k_ => some k_ ≠ (cE : Value).ownBlock)) (by (with_reducible repeat (first | apply zC | apply zD | apply zA)); exact zB bk.out (fun _ hk => ⟨hk.2, hk.1⟩)) hg hat); replace bN := mA (zR (ok := (fun k_ => some k_ ≠ (bJ : Value).ownBlock)) (by (with_reducible repeat (first | apply zC | apply zD | apply zA)); exact zB bN.out (fun _ hk => ⟨hk.2, hk.1⟩)) hg hat); replace HB := mA (hb); have eK := mA (ho); clear r ho hb hg hat))
         go_roundg k4
         case measure => have := aR.out; have := aT.out; have := aQ.out; have := bl.out; omega
         case rel => exact ⟨(fi), (fj), (fk), (wrap64 (T + 1)), (eW), H', ⟨by have := aR.out; have := aT.out; have := aQ.out; have := bl.out; omega⟩, ⟨rP bk.out⟩, ⟨rP bN.out⟩, ⟨rP eK.out⟩, ⟨by (with_reducible repeat (first | apply zL | apply zM | apply zH)); exact zG q.out (fun _ hk => ⟨hk.1.1, ⟨hk.1.2, hk.2⟩⟩)⟩, ⟨rP j.out⟩, ⟨bP l.out⟩, ⟨bP c.out⟩, ⟨bP m.out⟩, ⟨bP d.out⟩, ⟨bW⟩⟩
end Go.Proofs.YtjdkedmdeajmgaaDoor.P
end M0
