import Derived.Test.YtjdkedmdeajmgaaDoorCFnExactNormalAutomaton13
import Derived.Test.YtjdkedmdeajmgaaDoorCFnExactNormalAutomaton15
section M0
namespace Go.Proofs.YtjdkedmdeajmgaaDoor.P
open Go.RowKit Go.Proofs.YtjdkedmdeajmgaaDoor.Sh Go.Proofs.YtjdkedmdeajmgaaDoorW.PrintWords Go.Proofs.YtjdkedmdeajmgaaDoorW.PrintLast Go.Proofs.YtjdkedmdeajmgaaDoorW.PrintMore
open Kd
attribute [local go_sem] Zcf Zch Zcv Zcu Zb6 Zb7 Zcg Zce   -- for this text's walks alone
set_option linter.unusedVariables false
set_option linter.unusedSimpArgs false
mutual
def Zal.l0 : Nat → List Int → List Int → Int → Int → Int → List Bool → List (List Int) → List (Int × Int) → Int → Int → List Bool → List (List Int) → Option (Int × Int × List Bool × (List (List Int)))
 | 0, _, _, _, _, _, _, _, _, _, _, _, _ => none
 | k + 1, x4, x6, x8, a, g, h, i, j, b, c, d, e => if x8 < (x6.length : Int) then (Zal.l1 k x4 x6 x8 (([] : List Int)) a 0 a g h i j b c d e) else (some (b, c, d, e))
def Zal.l1 : Nat → List Int → List Int → Int → List Int → Int → Int → Int → Int → List Bool → List (List Int) → List (Int × Int) → Int → Int → List Bool → List (List Int) → Option (Int × Int × List Bool × (List (List Int)))
 | 0, _, _, _, _, _, _, _, _, _, _, _, _, _, _, _ => none
 | k + 1, x4, x6, x8, x9, m, c, g, h, b, a, i, j, l, d, e => if c < m then (if 0 ≤ x8 then (if x8 < (x6.length : Int) then (if 0 ≤ (rd x6 x8) then (if (rd x6 x8) < (a.length : Int) then (if 0 ≤ c then (if c < ((Zam a (rd x6 x8)).length : Int) then (if (rd (Zam a (rd x6 x8)) c) < 0 then (Zal.j2 k x4 x6 x8 x9 (rd (Zam a (rd x6 x8)) c) m c true g h b a i j l d e) else (if 0 ≤ (rd (Zam a (rd x6 x8)) c) then (if (rd (Zam a (rd x6 x8)) c) < (x4.length : Int) then (Zal.j2 k x4 x6 x8 x9 (rd (Zam a (rd x6 x8)) c) m c (decide ((rd x4 (rd (Zam a (rd x6 x8)) c)) < 0)) g h b a i j l d e) else (none)) else (none))) else (none)) else (none)) else (none)) else (none)) else (none)) else (none)) else ((some (([x9] : List (List Int)) : List (List Int))).bind fun n => (if e.length + n.length < 5864062014805 then (if 0 ≤ x8 then (if x8 < (x6.length : Int) then (if 0 ≤ (rd x6 x8) then (if (rd x6 x8) < (b.length : Int) then ((some (([rdOf false b (rd x6 x8)] : List Bool) : List Bool)).bind fun o => (if d.length + o.length < 140737488355328 then (Zal.l0 k x4 x6 (wrap64 (x8 + 1)) g h b a i j l (d ++ o) (e ++ n)) else (none))) else (none)) else (none)) else (none)) else (none)) else (none)))
def Zal.j2 : Nat → List Int → List Int → Int → List Int → Int → Int → Int → Bool → Int → Int → List Bool → List (List Int) → List (Int × Int) → Int → Int → List Bool → List (List Int) → Option (Int × Int × List Bool × (List (List Int)))
 | 0, _, _, _, _, _, _, _, _, _, _, _, _, _, _, _, _, _ => none
 | k + 1, x4, x6, x8, x9, l, m, n, s, b, c, d, e, a, g, h, i, j => if s = true then ((some (([(-1)] : List Int) : List Int)).bind fun o => (if x9.length + o.length < 17592186044416 then (Zal.l1 k x4 x6 x8 (x9 ++ o) m (wrap64 (n + 1)) b c d e a g h i j) else (none))) else (if 0 ≤ l then (if l < (x4.length : Int) then (if (mhas a (rd x4 l) = true) then ((some (([mget 0 a (rd x4 l)] : List Int) : List Int)).bind fun p => (if x9.length + p.length < 17592186044416 then (Zal.l1 k x4 x6 x8 (x9 ++ p) m (wrap64 (n + 1)) b c d e a g h i j) else (none))) else ((some (([l] : List Int) : List Int)).bind fun q => (if x6.length + q.length < 17592186044416 then ((some (([(x6.length : Int)] : List Int) : List Int)).bind fun r => (if x9.length + r.length < 17592186044416 then (Zal.l1 k x4 (x6 ++ q) x8 (x9 ++ r) m (wrap64 (n + 1)) b c d e (mset a (rd x4 l) (x6.length : Int)) g h i j) else (none))) else (none)))) else (none)) else (none))
end
def Zal.f (k : Nat) (c : Int) (a : Int) (d : List Bool) (e : List (List Int)) : Option (Int × Int × List Bool × (List (List Int))) := (Zai.f k c a d e).bind fun g => (if 0 ≤ a then (if a < (g.length : Int) then (if rdOf false g a = true then ((Zan.f k c a d e g).bind fun h => (if a < (h.length : Int) then (Zal.l0 k h (([a] : List Int)) 0 c a d e (mset ([] : List (Int × Int)) (rd h a) 0) c 0 ([] : List Bool) ([] : List (List Int))) else (none))) else ((Zdo.f c).bind fun b => (some (b.1, b.2.1, b.2.2.1, b.2.2.2)))) else (none)) else (none))
def Zal.T5 : Bool × List (List Nat × List Nat) := (true, [([], []), ([], []), ([], []), ([2], [2]), ([1, 3], [1, 3]), ([4], [4]), ([0, 5], [0, 5]), ([0, 1, 2, 3, 4, 5, 6], [0]), ([], []), ([8], [8]), ([9], [9]), ([7, 0, 1, 2, 3, 4, 5, 6, 7], [7]), ([10, 11, 0, 1, 2, 3, 4, 5, 6, 7, 8, 9, 10, 11], [10])])
def Zal.B5 : List Nat := [0, 0, 0, 4, 14, 30, 63, 127, 0, 256, 768, 255, 4095]
theorem Zal.tab5 : rtab .any (opsOf Tryd.f83 5) = Zal.T5 := by kernel_rfl
theorem Zal.bits5 : Zcb Zal.T5.2 Zal.B5 = true := by kernel_rfl
def Zal.T14 : Bool × List (List Nat × List Nat) := (true, [([], []), ([0], [0]), ([], []), ([], []), ([2, 3], [2, 3]), ([4], [4]), ([1, 5], [1, 5]), ([6], [6]), ([], []), ([7, 8], [7, 8]), ([9], [9]), ([10, 0, 1, 2, 3, 4, 5, 6, 7, 8, 9, 10], [10])])
def Zal.B14 : List Nat := [0, 1, 0, 0, 12, 28, 63, 127, 0, 511, 1023, 2047]
theorem Zal.tab14 : rtab .any (opsOf Tryd.f83 14) = Zal.T14 := by kernel_rfl
theorem Zal.bits14 : Zcb Zal.T14.2 Zal.B14 = true := by kernel_rfl
def Zal.T24 : Bool × List (List Nat × List Nat) := (true, [([], []), ([0], [0]), ([], []), ([2], [2]), ([1, 3], [1, 3]), ([], []), ([5], [5]), ([], []), ([7], [7]), ([], []), ([], []), ([9, 10], [9, 10]), ([11], [11]), ([8, 12], [8, 12]), ([13], [13]), ([14], [14]), ([6, 15, 4], [6, 15]), ([0, 1, 2, 3, 4, 5, 6], []), ([17, 4, 16, 0, 1, 2, 3, 4, 5, 6], [4, 17]), ([0, 1, 2, 3, 4, 5, 6, 7, 8, 9, 10, 11, 12, 13, 14, 15, 16, 17, 18], []), ([19, 16, 18, 0, 1, 2, 3, 4, 5, 6, 7, 8, 9, 10, 11, 12, 13, 14, 15, 16, 17, 18], [16, 19])])
def Zal.B24 : List Nat := [0, 1, 0, 4, 15, 0, 32, 0, 128, 0, 0, 1536, 3584, 8064, 16256, 32640, 65535, 127, 262143, 524287, 1048575]
theorem Zal.tab24 : rtab .any (opsOf Tryd.f83 24) = Zal.T24 := by kernel_rfl
theorem Zal.bits24 : Zcb Zal.T24.2 Zal.B24 = true := by kernel_rfl
set_option maxHeartbeats 8000000 in
set_option maxRecDepth 100000 in
theorem Zal.calls (k : Nat) (x : Int) (D : Int) (ak : Option Addr) (ab : Nat) (O : List Bool) (ah : Option Addr) (ac : Nat) (y : List (List Int)) (r1 : Int) (r2 : Int) (r3 : List Bool) (r4 : List (List Int)) (w : World) (dM : Kd.C Kd.bool w ak O.length O) (dN : O.length ≤ ab) (dO : Kd.C (Kd.slice 2 (Kd.int .i64)) w ah y.length y) (dP : y.length ≤ ac) (h : Zal.f k x D O y = some (r1, r2, r3, r4)) :
  Calls Tryd.prog 83 #[.agg #[.int .i64 x, .int .i64 D, .slice ak O.length ab, .slice ah y.length ac]] w fun e w' => ∃ fK fL : Value, e = .returned (.agg #[.int .i64 r1, .int .i64 r2, fK, fL]) ∧ Kd.R Kd.bool 4 w' w.heap.size (fun _ => True) fK r3 ∧ Kd.S (Kd.slice 2 (Kd.int .i64)) 22 w' w.heap.size (fun _ => True) fL r4 ∧ Below w.heap.size w w' := by
 have il := Tryd.underlying77
 have b5 := mA dM
 have cw := mA dN
 clear dM dN
 have b6 := mA dO
 have cx := mA dP
 clear dO dP
 have HB := mA (Below.refl w.heap.size w)
 unfold Zal.f at h
 have H := h
 clear h
 obtain ⟨a5, A2, H⟩ := bA H
 obtain ⟨fR, H⟩ := gE H
 obtain ⟨fS, H⟩ := gE H
 obtain ⟨hs, cy⟩ := nm (rdOf false a5 D)
 rw [← cy.out] at H
 by_cases c6 : hs = true; rotate_left
 ·replace c6 := Bool.eq_false_iff.mpr c6
  subst c6
  rw [iF] at H
  obtain ⟨⟨bB, bQ, ce, cz⟩, A111, H⟩ := bA H
  try dsimp only at H
  simp only [Option.some.injEq, Prod.mk.injEq] at H
  obtain ⟨rfl, rfl, rfl, rfl⟩ := H
  go_enter Tryd.func83, Tryd.ntmps83
  go_wp2_with (first | ((with_reducible refine Zat (N := 1) rfl ?_); refine boxS (N := 1) (cs := #[.int .i64 x, .int .i64 D, .slice ak O.length ab, .slice ah y.length ac]) (t := 77) ?_; intro G hg im hbox hb; have a := mA (hbox); have fi := geW (w := w) hg; have fj := geW (w := w) hg; replace HB := mA (Zaf (bW) hb); clear hb hbox hg) | ((with_reducible refine Zat (N := 2) rfl ?_); refine boxS (N := 2) (cs := #[.int .i64 0, .int .i64 0, .slice none 0 0, .slice none 0 0]) (t := 77) ?_; intro T hg io hbox hb; have m := mA (hbox); have fk := geW (w := w) hg; have fl := geW (w := w) hg; replace HB := mA (Zaf (bW) hb); have aU := mA (neB hg a); have aV := mA (neC hg a); replace a := mA (blkB a.out hb); clear hb hbox hg; have ht := aU.out; have hu := aV.out; obtain ⟨fT, fU, fV, fW⟩ := Zbl a.out; obtain ⟨fX, fY, fZ, f0⟩ := frz4 a.out) | ((with_reducible refine Zax (f := 52) rfl ?_); refine Zbi (some 15) Tryd.func52 #[.agg #[.int .i64 x, .int .i64 D, .slice ak O.length ab, .slice ah y.length ac]] ?_; (with_reducible refine (Zai.calls k x D _ _ O _ _ y a5 _ ?side1 ?side2 ?side3 ?side4 A2.out).mono ?_); (case side1 => exact cP (zQ b5.out HB.out)); (case side2 => exact cw.out); (case side3 => exact cP (zQ b6.out HB.out)); (case side4 => exact cx.out); rintro e ip ⟨f3, rfl, bm, hb⟩; refine ⟨_, rfl, ?_⟩; have X := mA (zS bm (Zaj (bW))); replace a := mA (blkB a.out hb); replace m := mA (blkB m.out hb); replace HB := mA (Zaf (bW) hb); (try clear hb); (try clear hb2); (try clear hk); (try clear hi); (try clear bm); obtain ⟨f4, f5, f6, f7⟩ := Zbl a.out; obtain ⟨f8, f9, ga, gb⟩ := frz4 a.out; obtain ⟨hN, hO, fm⟩ := zP X.out; subst fm; have bn : 0 ≤ (D : Int) := ofD; have bo : D < (a5.length : Int) := ofD; obtain ⟨b7, dv, bv⟩ := yD (zJ X.out).2.2 D bn bo; (try rw [← cy.out] at bv); cases dv; replace bn := eq_true bn; replace bo := eq_true bo) | ((with_reducible refine Zax (f := 130) rfl ?_); refine Zbi (some 24) Tryd.func130 #[.int .i64 x] ?_; (with_reducible refine (Zdo.calls x bB bQ ce cz _ A111.out).mono ?_); rintro e iq ⟨ir, it, rfl, bm, fM, hb⟩; refine ⟨_, rfl, ?_⟩; have dQ := mA (zS (yC bm (zI (rP X.out))) (Zaj (bW))); replace X := mA (zZ (rP X.out) (zU bm) hb); have dR := mA (yL fM (Zaj (bW))); replace a := mA (blkB a.out hb); replace m := mA (blkB m.out hb); replace HB := mA (Zaf (bW) hb); (try clear hb); (try clear hb2); (try clear hk); (try clear hi); (try clear bm); (try clear fM); obtain ⟨gc, gf, gg, gh⟩ := Zbl m.out; obtain ⟨gi, gj, gl, gm⟩ := frz4 m.out; obtain ⟨b8, b9, fn⟩ := zP dQ.out; subst fn; obtain ⟨cA, cC, fo⟩ := yE dR.out; subst fo))
  refine bodyPost_ret (results_cell_row rfl _ _ T 77 #[.int .i64 bB, .int .i64 bQ, .slice b8 ce.length b9, .slice cA cz.length cC] (0, 0) _ rfl (by (with_reducible repeat (first | refine Zad ?_ _ | refine Zaa ?_ | refine Zab ?_ _)); refine Zau (cs := #[.int .i64 bB, .int .i64 bQ, .slice b8 ce.length b9, .slice none 0 0]) ?_ 3 _ rfl; (with_reducible repeat (first | refine Zad ?_ _ | refine Zaa ?_ | refine Zab ?_ _)); refine Zau (cs := #[.int .i64 bB, .int .i64 bQ, .slice none 0 0, .slice none 0 0]) ?_ 2 _ rfl; (with_reducible repeat (first | refine Zad ?_ _ | refine Zaa ?_ | refine Zab ?_ _)); refine Zau (cs := #[.int .i64 bB, .int .i64 0, .slice none 0 0, .slice none 0 0]) ?_ 1 _ rfl; (with_reducible repeat (first | refine Zad ?_ _ | refine Zaa ?_ | refine Zab ?_ _)); refine Zau (cs := #[.int .i64 0, .int .i64 0, .slice none 0 0, .slice none 0 0]) ?_ 0 _ rfl; exact bP m.out) Tryd.underlying77 rfl (by kernel_rfl)) rfl ?_
  exact ⟨_, _, eW, by (with_reducible repeat (first | apply zC | apply zD | apply zA)); exact zB (zF (p := ⟨T, 3, none⟩) (zF (p := ⟨T, 2, none⟩) (zF (p := ⟨T, 1, none⟩) (zF (p := ⟨T, 0, none⟩) (zV dQ.out m.out (by decide)) (fun _ hk => hk.2) (.int .i64 bB)) (fun _ hk => hk.2) (.int .i64 bQ)) (fun _ hk => hk.2) (.slice b8 ce.length b9)) (fun _ hk => hk.2) (.slice cA cz.length cC)) (fun _ hk => trivial), by (with_reducible repeat (first | apply zL | apply zM | apply zH)); exact zG (zE (p := ⟨T, 3, none⟩) (zE (p := ⟨T, 2, none⟩) (zE (p := ⟨T, 1, none⟩) (zE (p := ⟨T, 0, none⟩) (zX dR.out m.out (by decide)) (fun _ hk => hk.2) (.int .i64 bB)) (fun _ hk => hk.2) (.int .i64 bQ)) (fun _ hk => hk.2) (.slice b8 ce.length b9)) (fun _ hk => hk.2) (.slice cA cz.length cC)) (fun _ hk => trivial), bW⟩
 subst c6
 rw [if_pos rfl] at H
 obtain ⟨u, A7, H⟩ := bA H
 obtain ⟨gn, H⟩ := gE H
 obtain ⟨dw, ba⟩ := nm ((([D] : List Int)) : List Int)
 rw [← ba.out] at H
 have H' := mA H
 clear H
 go_enter Tryd.func83, Tryd.ntmps83
 try go_wp2_with (first | ((with_reducible refine Zat (N := 1) rfl ?_); refine boxS (N := 1) (cs := #[.int .i64 x, .int .i64 D, .slice ak O.length ab, .slice ah y.length ac]) (t := 77) ?_; intro G hg w9 hbox hb; have a := mA (hbox); have fi := geW (w := w) hg; have fj := geW (w := w) hg; replace HB := mA (Zaf (bW) hb); clear hb hbox hg) | ((with_reducible refine Zat (N := 2) rfl ?_); refine boxS (N := 2) (cs := #[.int .i64 0, .int .i64 0, .slice none 0 0, .slice none 0 0]) (t := 77) ?_; intro T hg iM hbox hb; have m := mA (hbox); have fk := geW (w := w) hg; have fl := geW (w := w) hg; replace HB := mA (Zaf (bW) hb); have aU := mA (neB hg a); have aV := mA (neC hg a); replace a := mA (blkB a.out hb); clear hb hbox hg; have hP := aU.out; have hQ := aV.out; obtain ⟨ee, ef, eg, eh⟩ := Zbl a.out; obtain ⟨ei, ej, ek, el⟩ := frz4 a.out) | ((with_reducible refine Zax (f := 52) rfl ?_); refine Zbi (some 15) Tryd.func52 #[.agg #[.int .i64 x, .int .i64 D, .slice ak O.length ab, .slice ah y.length ac]] ?_; (with_reducible refine (Zai.calls k x D _ _ O _ _ y a5 _ ?side1 ?side2 ?side3 ?side4 A2.out).mono ?_); (case side1 => exact cP (zQ b5.out HB.out)); (case side2 => exact cw.out); (case side3 => exact cP (zQ b6.out HB.out)); (case side4 => exact cx.out); rintro e iN ⟨f3, rfl, bm, hb⟩; refine ⟨_, rfl, ?_⟩; have X := mA (zS bm (Zaj (bW))); replace a := mA (blkB a.out hb); replace m := mA (blkB m.out hb); replace HB := mA (Zaf (bW) hb); (try clear hb); (try clear hb2); (try clear hk); (try clear hi); (try clear bm); obtain ⟨em, en, eo, ep⟩ := Zbl a.out; obtain ⟨er, es, et, eu⟩ := frz4 a.out; obtain ⟨iu, dx, gp⟩ := zP X.out; subst gp; have bn : 0 ≤ (D : Int) := ofD; have bo : D < (a5.length : Int) := ofD; obtain ⟨b7, dv, bv⟩ := yD (zJ X.out).2.2 D bn bo; (try rw [← cy.out] at bv); cases dv; replace bn := eq_true bn; replace bo := eq_true bo) | ((with_reducible refine Zax (f := 131) rfl ?_); refine Zbi (some 27) Tryd.func131 #[.agg #[.int .i64 x, .int .i64 D, .slice ak O.length ab, .slice ah y.length ac], .slice (some b7) a5.length dx] ?_; (with_reducible refine (Zan.calls k x D _ _ O _ _ y _ _ a5 u _ ?side1 ?side2 ?side3 ?side4 ?side5 ?side6 A7.out).mono ?_); (case side1 => exact cP (zQ b5.out HB.out)); (case side2 => exact cw.out); (case side3 => exact cP (zQ b6.out HB.out)); (case side4 => exact cx.out); (case side5 => exact cP ((zJ X.out).2.2)); (case side6 => exact (zJ X.out).2.1); rintro e hv ⟨iv, rfl, bm, hb⟩; refine ⟨_, rfl, ?_⟩; replace X := mA (zK (rP X.out) hb); have Y := mA (zS bm (Zaj (bW))); replace a := mA (blkB a.out hb); replace m := mA (blkB m.out hb); replace HB := mA (Zaf (bW) hb); (try clear hb); (try clear hb2); (try clear hk); (try clear hi); (try clear bm)))
 replace X := mA (zA X.out)
 replace Y := mA (zA Y.out)
 replace a := mA (Zaa a.out)
 replace m := mA (Zaa m.out)
 replace HB := mA (Za1 HB.out)
 obtain ⟨iw, W, e0⟩ := zP Y.out
 (first | subst e0 | (injection e0 with al aG am; have aH := al.symm; have aI := am.symm; clear al aG am; subst aH; subst aI))
 have cD : 0 ≤ (D : Int) := ofD
 have cE : D < (u.length : Int) := ofD
 obtain ⟨A, gq, bR⟩ := zO (zJ Y.out).2.2 D cD cE
 cases gq
 replace cD := eq_true cD
 replace cE := eq_true cE
 refine Zck (n := 13) (S := fun w' => w'.cell? ⟨G, 0, none⟩ = some (.int .i64 x) ∧ w'.cell? ⟨G, 1, none⟩ = some (.int .i64 D) ∧ w'.cell? ⟨G, 2, none⟩ = some (.slice ak O.length ab) ∧ w'.cell? ⟨G, 3, none⟩ = some (.slice ah y.length ac) ∧ w'.cell? (A.add (D).toNat) = some (.int .i64 (rd u D))) (ds := []) #[false, false, false, false, false, false, false, false, false, false, false, false, false] (by kernel_rfl) rfl rfl ⟨bc a 0, bc a 1, bc a 2, bc a 3, bR⟩ (fun hHeld => ?_); refine Zb5 Zal.tab5 Zal.bits5 (fun HT_ HW_ => ?_)
 generalize hv.drew = w17 at X Y a m HB bR hHeld ⊢
 refine Zas (i := 1) (N := some 29) (Zap HT_.out (by kernel_rfl)) ?_
 refine Zas (i := 2) (N := some 30) (Zap HT_.out (by kernel_rfl)) ?_
 refine Zas (i := 8) (N := some 35) (Zap HT_.out (by kernel_rfl)) ?_
 refine Zbg (i := 3) (N := some 31) (Za0 HT_.out HW_.out (by kernel_rfl)) hHeld ?_
 refine Zas (i := 4) (N := some 32) (Zap HT_.out (by kernel_rfl)) ?_
 refine Zbg (i := 5) (N := some 33) (Za0 HT_.out HW_.out (by kernel_rfl)) hHeld ?_
 refine Zbg (i := 9) (N := some 36) (Za0 HT_.out HW_.out (by kernel_rfl)) hHeld ?_
 refine join_ (σ := Nat × Value) 1 #[true, true, true, true, true, true, true, true, true, true, true, true, false] (fun s_ => [(28, .map (some s_.1)), (37, s_.2), (34, .map (some s_.1)), (5, .map (some s_.1))]) (fun s_ w' => (w'.cell? ⟨G, 0, none⟩ = some (.int .i64 x) ∧ w'.cell? ⟨G, 1, none⟩ = some (.int .i64 D) ∧ w'.cell? ⟨G, 2, none⟩ = some (.slice ak O.length ab) ∧ w'.cell? ⟨G, 3, none⟩ = some (.slice ah y.length ac) ∧ w'.cell? (A.add (D).toNat) = some (.int .i64 (rd u D))) ∧ (Kd.R Kd.bool 4 w' w.heap.size (fun _ => True) (.slice (some b7) a5.length dx) a5) ∧ (Kd.R (Kd.int .i64) 2 w' w.heap.size (fun k_ => some k_ ≠ (s_.2 : Value).ownBlock) (.slice (some A) u.length W) u) ∧ (Kd.R (Kd.int .i64) 2 w' w.heap.size (fun k_ => some k_ ≠ (.slice (some A) u.length W : Value).ownBlock) s_.2 dw) ∧ (w'.heap[G]? = some (.cells #[.int .i64 x, .int .i64 D, .slice ak O.length ab, .slice ah y.length ac] 77 (0, 0))) ∧ (w'.heap[T]? = some (.cells #[.int .i64 0, .int .i64 0, .slice none 0 0, .slice none 0 0] 77 (0, 0))) ∧ (w'.heap[s_.1]? = some (mobj (Value.int .i64) (Value.int .i64) (mset ([] : List (Int × Int)) (rd u D) 0))) ∧ (w.heap.size ≤ s_.1) ∧ (w.heap.size ≤ s_.1) ∧ (G ≠ s_.1) ∧ (s_.1 ≠ G) ∧ (T ≠ s_.1) ∧ (s_.1 ≠ T) ∧ (Below w.heap.size w w')) ?_ ?_
 rotate_left
 ·intro hCont
  refine two_ (i := 0) (j := 10) (Ni := some 28) (Nj := some 37) #[true, true, true, true, true, true, false, false, true, true, false, false, false] #[false, true, true, true, true, true, false, false, true, true, true, false, false] rfl rfl rfl rfl (two_of HT_.out (by kernel_rfl)) (by decide) (by decide) (fun K hK => ?_) (fun K hK => ?_); rotate_left
  ·skip
   refine xA (Kd.int .i64) _ 2 ?hg (N := 37) ?hd (xs := ([D] : List Int)) (inner := [.int .i64 D]) (ok := fun _ => True) (okp := fun _ => True) ?hr ?hp (fun _ hk => hk) trivial (Below.refl _ _) (Nat.le_refl _) (by simp) ?_; (case hd => rfl); (case hg => rfl); (case hr => first | (go_simp; done) | (go_simp; rfl)); (case hp => exact (Reps.one (show Kd.M (Kd.int .i64) _ _ _ D [.int .i64 D] from rfl) (Reps.none _ _)))
   intro bp hw bS hb hg_ hnew_
   have aN := (hb.cell (World.block_lt_of_cell? _ _ (hHeld.2.2.2.2))).trans (hHeld.2.2.2.2)
   clear hg_ hnew_
   (first | rw [← ba.out] at bS | (simp only [Int.reduceToNat] at bS; rw [← ba.out] at bS))
   replace X := mA (zK (rP X.out) hb)
   have aw := mA (zS (yC bS (zI (rP Y.out))) (Zaj (bW)))
   replace Y := mA (zZ (rP Y.out) (zU bS) hb)
   replace a := mA (blkB a.out hb)
   replace m := mA (blkB m.out hb)
   replace HB := mA (Zaf (bW) hb)
   clear hb bS
   refine hK.out _ _ ⟨bc a 0, bc a 1, bc a 2, bc a 3, aN⟩ (fun hHeld => ?_)
   clear hK K
   refine putS 37 ?_
   refine one_ (i := 0) (N := some 28) #[true, true, true, true, true, true, false, false, true, true, true, false, false] rfl rfl (Zbe HT_.out (by kernel_rfl)) (by decide) (fun K hK => ?_)
   refine mapS_step (Value.int .i64) (Value.int .i64) (by rfl) ?_
   intro aa hg hx hbox hb
   have aN := (hb.cell (World.block_lt_of_cell? _ _ (hHeld.2.2.2.2))).trans (hHeld.2.2.2.2)
   replace X := mA (zK (rP X.out) hb)
   replace Y := mA (zK (rP Y.out) hb)
   replace aw := mA (zK (rP aw.out) hb)
   have q := mA (hbox)
   have bJ := geW (w := w) hg
   have a1 := geW (w := w) hg
   replace HB := mA (Zaf (bW) hb)
   have ai := mA (neB hg a)
   have aA := mA (neC hg a)
   replace a := mA (blkB a.out hb)
   have an := mA (neB hg m)
   have aP := mA (neC hg m)
   replace m := mA (blkB m.out hb)
   clear hb hbox hg
   refine hK.out _ _ ⟨bc a 0, bc a 1, bc a 2, bc a 3, aN⟩ (fun hHeld => ?_)
   clear hK K
   refine putS 28 ?_
   refine one_ (i := 6) (N := none) #[true, true, true, true, true, true, true, false, true, true, true, false, false] rfl rfl (Zbe HT_.out (by kernel_rfl)) (by decide) (fun K hK => ?_)
   refine msetS_step (eK := (Value.int .i64)) (eV := (Value.int .i64)) (g := aa) (L := ([] : List (Int × Int))) (rd u D) 0 (by rfl) (mkey_int .i64) (bP q.out) Tryd.underlying159 Tryd.underlying2 ?_
   intro hy hbk hg
   have aN := cell_mset hg (bP q.out) (hHeld.2.2.2.2)
   replace a := mA (Zah (g := G) (o := .cells #[.int .i64 x, .int .i64 D, .slice ak O.length ab, .slice ah y.length ac] 77 (0, 0)) (bP a.out) hg (fun e_ => ai.out (Option.some.inj e_)))
   replace m := mA (Zah (g := T) (o := .cells #[.int .i64 0, .int .i64 0, .slice none 0 0, .slice none 0 0] 77 (0, 0)) (bP m.out) hg (fun e_ => an.out (Option.some.inj e_)))
   replace X := mA (Kd.R_mset (rP X.out) (bP q.out) hg)
   replace Y := mA (Kd.R_mset (rP Y.out) (bP q.out) hg)
   replace aw := mA (Kd.R_mset (rP aw.out) (bP q.out) hg)
   replace q := mA (hbk)
   replace HB := mA ((fun h_ => Below.grown h_ hg h_.size (fun k_ e_ => by injection e_ with e_; rw [← e_]; exact a1.out)) (bW))
   clear hg hbk
   refine hK.out _ _ ⟨bc a 0, bc a 1, bc a 2, bc a 3, aN⟩ (fun hHeld => ?_)
   clear hK K
   refine Zas (i := 7) (N := some 34) (Zap HT_.out (by kernel_rfl)) ?_
   refine Zas (i := 11) (N := some 5) (Zap HT_.out (by kernel_rfl)) ?_
   exact norm_ (by simp only [Zcy, Act.put, List.setIfInBounds_toArray, List.set_cons_zero, List.set_cons_succ]) (hCont (aa, bp) _ ⟨hHeld, (rP X.out), (by (with_reducible repeat (first | apply zC | apply zD | apply zA)); exact zB Y.out (fun _ hk => hk.2)), (by (with_reducible repeat (first | apply zC | apply zD | apply zA)); exact zB aw.out (fun _ hk => hk.2)), (bP a.out), (bP m.out), (bP q.out), bJ.out, a1.out, ai.out, aA.out, an.out, aP.out, (bW)⟩)
  skip
  refine mapS_step (Value.int .i64) (Value.int .i64) (by rfl) ?_
  intro aa hg hw hbox hb
  have aN := (hb.cell (World.block_lt_of_cell? _ _ (hHeld.2.2.2.2))).trans (hHeld.2.2.2.2)
  replace X := mA (zK (rP X.out) hb)
  replace Y := mA (zK (rP Y.out) hb)
  have q := mA (hbox)
  have bJ := geW (w := w) hg
  have a1 := geW (w := w) hg
  replace HB := mA (Zaf (bW) hb)
  have ai := mA (neB hg a)
  have aA := mA (neC hg a)
  replace a := mA (blkB a.out hb)
  have an := mA (neB hg m)
  have aP := mA (neC hg m)
  replace m := mA (blkB m.out hb)
  clear hb hbox hg
  refine hK.out _ _ ⟨bc a 0, bc a 1, bc a 2, bc a 3, aN⟩ (fun hHeld => ?_)
  clear hK K
  refine putS 28 ?_
  refine two_ (i := 6) (j := 10) (Ni := none) (Nj := some 37) #[true, true, true, true, true, true, true, false, true, true, false, false, false] #[true, true, true, true, true, true, false, false, true, true, true, false, false] rfl rfl rfl rfl (two_of HT_.out (by kernel_rfl)) (by decide) (by decide) (fun K hK => ?_) (fun K hK => ?_)
  ·skip
   refine msetS_step (eK := (Value.int .i64)) (eV := (Value.int .i64)) (g := aa) (L := ([] : List (Int × Int))) (rd u D) 0 (by rfl) (mkey_int .i64) (bP q.out) Tryd.underlying159 Tryd.underlying2 ?_
   intro hz hbk hg
   have aN := cell_mset hg (bP q.out) (hHeld.2.2.2.2)
   replace a := mA (Zah (g := G) (o := .cells #[.int .i64 x, .int .i64 D, .slice ak O.length ab, .slice ah y.length ac] 77 (0, 0)) (bP a.out) hg (fun e_ => ai.out (Option.some.inj e_)))
   replace m := mA (Zah (g := T) (o := .cells #[.int .i64 0, .int .i64 0, .slice none 0 0, .slice none 0 0] 77 (0, 0)) (bP m.out) hg (fun e_ => an.out (Option.some.inj e_)))
   replace X := mA (Kd.R_mset (rP X.out) (bP q.out) hg)
   replace Y := mA (Kd.R_mset (rP Y.out) (bP q.out) hg)
   replace q := mA (hbk)
   replace HB := mA ((fun h_ => Below.grown h_ hg h_.size (fun k_ e_ => by injection e_ with e_; rw [← e_]; exact a1.out)) (bW))
   clear hg hbk
   refine hK.out _ _ ⟨bc a 0, bc a 1, bc a 2, bc a 3, aN⟩ (fun hHeld => ?_)
   clear hK K
   refine Zas (i := 7) (N := some 34) (Zap HT_.out (by kernel_rfl)) ?_
   refine Zas (i := 11) (N := some 5) (Zap HT_.out (by kernel_rfl)) ?_
   refine one_ (i := 10) (N := some 37) #[true, true, true, true, true, true, true, true, true, true, true, true, false] rfl rfl (Zbe HT_.out (by kernel_rfl)) (by decide) (fun K hK => ?_)
   refine xA (Kd.int .i64) _ 2 ?hg (N := 37) ?hd (xs := ([D] : List Int)) (inner := [.int .i64 D]) (ok := fun _ => True) (okp := fun _ => True) ?hr ?hp (fun _ hk => hk) trivial (Below.refl _ _) (Nat.le_refl _) (by simp) ?_; (case hd => rfl); (case hg => rfl); (case hr => first | (go_simp; done) | (go_simp; rfl)); (case hp => exact (Reps.one (show Kd.M (Kd.int .i64) _ _ _ D [.int .i64 D] from rfl) (Reps.none _ _)))
   intro bp hx bT hb hg_ hnew_
   have aN := (hb.cell (World.block_lt_of_cell? _ _ (hHeld.2.2.2.2))).trans (hHeld.2.2.2.2)
   clear hg_ hnew_
   (first | rw [← ba.out] at bT | (simp only [Int.reduceToNat] at bT; rw [← ba.out] at bT))
   replace X := mA (zK (rP X.out) hb)
   have aw := mA (zS (yC bT (zI (rP Y.out))) (Zaj (bW)))
   replace Y := mA (zZ (rP Y.out) (zU bT) hb)
   replace a := mA (blkB a.out hb)
   replace m := mA (blkB m.out hb)
   replace q := mA (blkB q.out hb)
   replace HB := mA (Zaf (bW) hb)
   clear hb bT
   refine hK.out _ _ ⟨bc a 0, bc a 1, bc a 2, bc a 3, aN⟩ (fun hHeld => ?_)
   clear hK K
   refine putS 37 ?_
   exact norm_ (by simp only [Zcy, Act.put, List.setIfInBounds_toArray, List.set_cons_zero, List.set_cons_succ]) (hCont (aa, bp) _ ⟨hHeld, (rP X.out), (by (with_reducible repeat (first | apply zC | apply zD | apply zA)); exact zB Y.out (fun _ hk => hk.2)), (by (with_reducible repeat (first | apply zC | apply zD | apply zA)); exact zB aw.out (fun _ hk => hk.2)), (bP a.out), (bP m.out), (bP q.out), bJ.out, a1.out, ai.out, aA.out, an.out, aP.out, (bW)⟩)
  skip
  refine xA (Kd.int .i64) _ 2 ?hg (N := 37) ?hd (xs := ([D] : List Int)) (inner := [.int .i64 D]) (ok := fun _ => True) (okp := fun _ => True) ?hr ?hp (fun _ hk => hk) trivial (Below.refl _ _) (Nat.le_refl _) (by simp) ?_; (case hd => rfl); (case hg => rfl); (case hr => first | (go_simp; done) | (go_simp; rfl)); (case hp => exact (Reps.one (show Kd.M (Kd.int .i64) _ _ _ D [.int .i64 D] from rfl) (Reps.none _ _)))
  intro bp hz bU hb hg_ hnew_
  have aN := (hb.cell (World.block_lt_of_cell? _ _ (hHeld.2.2.2.2))).trans (hHeld.2.2.2.2)
  clear hg_ hnew_
  (first | rw [← ba.out] at bU | (simp only [Int.reduceToNat] at bU; rw [← ba.out] at bU))
  replace X := mA (zK (rP X.out) hb)
  have aw := mA (zS (yC bU (zI (rP Y.out))) (Zaj (bW)))
  replace Y := mA (zZ (rP Y.out) (zU bU) hb)
  replace a := mA (blkB a.out hb)
  replace m := mA (blkB m.out hb)
  replace q := mA (blkB q.out hb)
  replace HB := mA (Zaf (bW) hb)
  clear hb bU
  refine hK.out _ _ ⟨bc a 0, bc a 1, bc a 2, bc a 3, aN⟩ (fun hHeld => ?_)
  clear hK K
  refine putS 37 ?_
  refine one_ (i := 6) (N := none) #[true, true, true, true, true, true, true, false, true, true, true, false, false] rfl rfl (Zbe HT_.out (by kernel_rfl)) (by decide) (fun K hK => ?_)
  refine msetS_step (eK := (Value.int .i64)) (eV := (Value.int .i64)) (g := aa) (L := ([] : List (Int × Int))) (rd u D) 0 (by rfl) (mkey_int .i64) (bP q.out) Tryd.underlying159 Tryd.underlying2 ?_
  intro hy hbk hg
  have aN := cell_mset hg (bP q.out) (hHeld.2.2.2.2)
  replace a := mA (Zah (g := G) (o := .cells #[.int .i64 x, .int .i64 D, .slice ak O.length ab, .slice ah y.length ac] 77 (0, 0)) (bP a.out) hg (fun e_ => ai.out (Option.some.inj e_)))
  replace m := mA (Zah (g := T) (o := .cells #[.int .i64 0, .int .i64 0, .slice none 0 0, .slice none 0 0] 77 (0, 0)) (bP m.out) hg (fun e_ => an.out (Option.some.inj e_)))
  replace X := mA (Kd.R_mset (rP X.out) (bP q.out) hg)
  replace Y := mA (Kd.R_mset (rP Y.out) (bP q.out) hg)
  replace aw := mA (Kd.R_mset (rP aw.out) (bP q.out) hg)
  replace q := mA (hbk)
  replace HB := mA ((fun h_ => Below.grown h_ hg h_.size (fun k_ e_ => by injection e_ with e_; rw [← e_]; exact a1.out)) (bW))
  clear hg hbk
  refine hK.out _ _ ⟨bc a 0, bc a 1, bc a 2, bc a 3, aN⟩ (fun hHeld => ?_)
  clear hK K
  refine Zas (i := 7) (N := some 34) (Zap HT_.out (by kernel_rfl)) ?_
  refine Zas (i := 11) (N := some 5) (Zap HT_.out (by kernel_rfl)) ?_
  exact norm_ (by simp only [Zcy, Act.put, List.setIfInBounds_toArray, List.set_cons_zero, List.set_cons_succ]) (hCont (aa, bp) _ ⟨hHeld, (rP X.out), (by (with_reducible repeat (first | apply zC | apply zD | apply zA)); exact zB Y.out (fun _ hk => hk.2)), (by (with_reducible repeat (first | apply zC | apply zD | apply zA)); exact zB aw.out (fun _ hk => hk.2)), (bP a.out), (bP m.out), (bP q.out), bJ.out, a1.out, ai.out, aA.out, an.out, aP.out, (bW)⟩)
 rintro ⟨aa, bp⟩ w23 ⟨hS_, c1, da, db, dc, dd, de, df, dg, dh, di, e1, e2, e3⟩
 have dj : Zac (Kd.R Kd.bool 4 w23 w.heap.size (fun _ => True) (.slice (some b7) a5.length dx) a5) := ⟨c1⟩
 have dk : Zac (Kd.R (Kd.int .i64) 2 w23 w.heap.size (fun k_ => some k_ ≠ (bp : Value).ownBlock) (.slice (some A) u.length W) u) := ⟨da⟩
 have dl : Zac (Kd.R (Kd.int .i64) 2 w23 w.heap.size (fun k_ => some k_ ≠ (.slice (some A) u.length W : Value).ownBlock) bp dw) := ⟨db⟩
 have dm : Zac (w23.heap[G]? = some (.cells #[.int .i64 x, .int .i64 D, .slice ak O.length ab, .slice ah y.length ac] 77 (0, 0))) := ⟨dc⟩
 have dn : Zac (w23.heap[T]? = some (.cells #[.int .i64 0, .int .i64 0, .slice none 0 0, .slice none 0 0] 77 (0, 0))) := ⟨dd⟩
 have dp : Zac (w23.heap[aa]? = some (mobj (Value.int .i64) (Value.int .i64) (mset ([] : List (Int × Int)) (rd u D) 0))) := ⟨de⟩
 have dq : Zac (w.heap.size ≤ aa) := ⟨df⟩
 have dr : Zac (w.heap.size ≤ aa) := ⟨dg⟩
 have dt : Zac (G ≠ aa) := ⟨dh⟩
 have du : Zac (aa ≠ G) := ⟨di⟩
 have e4 : Zac (T ≠ aa) := ⟨e1⟩
 have e5 : Zac (aa ≠ T) := ⟨e2⟩
 have e6 : Zac (Below w.heap.size w w23) := ⟨e3⟩
 clear X Y a m HB c1 da db dc dd de df dg dh di e1 e2 e3; have X := dj; have Y := dk; have aw := dl; have a := dm; have m := dn; have q := dp; have bJ := dq; have a1 := dr; have ai := dt; have aA := du; have an := e4; have aP := e5; have HB := e6; clear dj dk dl dm dn dp dq dr dt du e4 e5 e6
 have hHeld : w23.cell? ⟨G, 0, none⟩ = some (.int .i64 x) ∧ w23.cell? ⟨G, 1, none⟩ = some (.int .i64 D) ∧ w23.cell? ⟨G, 2, none⟩ = some (.slice ak O.length ab) ∧ w23.cell? ⟨G, 3, none⟩ = some (.slice ah y.length ac) ∧ w23.cell? (A.add (D).toNat) = some (.int .i64 (rd u D)) := hS_
 refine norm_ (a' := ?_) ?_ ?_
 rotate_left
 ·simp only [Zcy, Act.put, List.setIfInBounds_toArray, List.set_cons_zero, List.set_cons_succ]
  rfl
 refine Zas (i := 12) (N := some 6) (Zap HT_.out (by kernel_rfl)) ?_
 refine done_ (Zcs HT_.out (by kernel_rfl)) ?_
 have hR := ai.out
 have hS := aA.out
 have ev : w23.cell? ⟨G, 0, none⟩ = some (.int .i64 x) := bc a 0
 have ew : w23.cell? ⟨G, 1, none⟩ = some (.int .i64 D) := bc a 1
 have ey : w23.cell? ⟨G, 2, none⟩ = some (.slice ak O.length ab) := bc a 2
 have ez : w23.cell? ⟨G, 3, none⟩ = some (.slice ah y.length ac) := bc a 3
 have eA := Zae a.out 0
 have eB := Zae a.out 1
 have eC := Zae a.out 2
 have eD := Zae a.out 3
 try go_wp2_with (first | ((with_reducible refine Zat (N := 7) rfl ?_); refine boxS (N := 7) (cs := #[.int .i64 0, .int .i64 0, .slice none 0 0, .slice none 0 0]) (t := 77) ?_; intro J hg iO hbox hb; replace X := mA (zK (rP X.out) hb); replace Y := mA (zK (rP Y.out) hb); replace aw := mA (zK (rP aw.out) hb); have l := mA (hbox); have hT := geW (w := w) hg; have hU := geW (w := w) hg; replace HB := mA (Zaf (bW) hb); have aj := mA (neB hg a); have aW := mA (neC hg a); replace a := mA (blkB a.out hb); have ao := mA (neB hg m); have a7 := mA (neC hg m); replace m := mA (blkB m.out hb); have ap := mA (neB hg q); have aX := mA (neC hg q); replace q := mA (blkB q.out hb); clear hb hbox hg; have hV := aW.out; have hW := aj.out; have hX := a7.out; have hY := ao.out; have hZ := aX.out; have h0 := ap.out; obtain ⟨eE, eF, eG, eH⟩ := Zbl l.out; obtain ⟨eI, eJ, eL, eM⟩ := frz4 l.out))
 go_loopg [6, 8] k (fun kq v6 v8 w' => ∃ (bV : List Int) (v : Int) (aY : List (Int × Int)) (B : List Bool) (s : List (List Int)) (aq : Value) (ar : Value), v8 = .int .i64 v ∧ Zac (Zal.l0 kq u bV v x D O y aY x 0 B s = some (r1, r2, r3, r4)) ∧ Zac (kq ≤ k) ∧ Zac (Kd.R (Kd.int .i64) 2 w' w.heap.size (fun k_ => some k_ ≠ (v6 : Value).ownBlock) (.slice (some A) u.length W) u) ∧ Zac (Kd.R (Kd.int .i64) 2 w' w.heap.size (fun k_ => some k_ ≠ ((.slice (some A) u.length W) : Value).ownBlock) v6 bV) ∧ Zac (Kd.R Kd.bool 4 w' w.heap.size (fun _ => True) aq B) ∧ Zac (Kd.S (Kd.slice 2 (Kd.int .i64)) 22 w' w.heap.size (fun k_ => some k_ ≠ ((.slice (some A) u.length W) : Value).ownBlock ∧ some k_ ≠ (v6 : Value).ownBlock) ar s) ∧ Zac (w'.heap[G]? = some (.cells #[.int .i64 x, .int .i64 D, (.slice ak O.length ab), (.slice ah y.length ac)] 77 (0, 0))) ∧ Zac (w'.heap[T]? = some (.cells #[.int .i64 0, .int .i64 0, (.slice none 0 0), (.slice none 0 0)] 77 (0, 0))) ∧ Zac (w'.heap[aa]? = some (mobj (Value.int .i64) (Value.int .i64) aY)) ∧ Zac (w'.heap[J]? = some (.cells #[.int .i64 x, .int .i64 0, aq, ar] 77 (0, 0))) ∧ Zac (Below w.heap.size w w'))
 case atStart => exact ⟨(dw), (0), (mset ([] : List (Int × Int)) (rd u D) 0), (([] : List Bool)), (([] : List (List Int))), (.slice none 0 0), (.slice none 0 0), (eW), H', ⟨Nat.le_refl _⟩, ⟨by (with_reducible repeat (first | apply zC | apply zD | apply zA)); exact zB (zF (p := ⟨J, 3, none⟩) (zF (p := ⟨J, 2, none⟩) (zF (p := ⟨J, 1, none⟩) (zF (p := ⟨J, 0, none⟩) (zV Y.out l.out (by decide)) (fun _ hk => hk.2) (.int .i64 x)) (fun _ hk => hk.2) (.int .i64 0)) (fun _ hk => hk.2) (.slice none 0 0)) (fun _ hk => hk.2) (.slice none 0 0)) (fun _ hk => hk.1)⟩, ⟨by (with_reducible repeat (first | apply zC | apply zD | apply zA)); exact zB (zF (p := ⟨J, 3, none⟩) (zF (p := ⟨J, 2, none⟩) (zF (p := ⟨J, 1, none⟩) (zF (p := ⟨J, 0, none⟩) (zV aw.out l.out (by decide)) (fun _ hk => hk.2) (.int .i64 x)) (fun _ hk => hk.2) (.int .i64 0)) (fun _ hk => hk.2) (.slice none 0 0)) (fun _ hk => hk.2) (.slice none 0 0)) (fun _ hk => hk.1)⟩, ⟨by first | exact yR _ _ _ _ _ | exact yW _ _ _ _ _ | exact yX _ _ _ _ _ | exact yT _ _ _ _ _ | exact yU _ _ _ _ _⟩, ⟨by first | exact yU _ _ _ _ _ | exact yW _ _ _ _ _ | exact yX _ _ _ _ _ | exact yT _ _ _ _ _ | exact yR _ _ _ _ _⟩, ⟨by (with_reducible repeat (first | refine Zad ?_ _ | refine Zaa ?_ | refine Zab ?_ _)); refine Zbt ?_ aj.out _; (with_reducible repeat (first | refine Zad ?_ _ | refine Zaa ?_ | refine Zab ?_ _)); refine Zbt ?_ aj.out _; (with_reducible repeat (first | refine Zad ?_ _ | refine Zaa ?_ | refine Zab ?_ _)); refine Zbt ?_ aj.out _; (with_reducible repeat (first | refine Zad ?_ _ | refine Zaa ?_ | refine Zab ?_ _)); refine Zbt ?_ aj.out _; exact bP a.out⟩, ⟨by (with_reducible repeat (first | refine Zad ?_ _ | refine Zaa ?_ | refine Zab ?_ _)); refine Zbt ?_ ao.out _; (with_reducible repeat (first | refine Zad ?_ _ | refine Zaa ?_ | refine Zab ?_ _)); refine Zbt ?_ ao.out _; (with_reducible repeat (first | refine Zad ?_ _ | refine Zaa ?_ | refine Zab ?_ _)); refine Zbt ?_ ao.out _; (with_reducible repeat (first | refine Zad ?_ _ | refine Zaa ?_ | refine Zab ?_ _)); refine Zbt ?_ ao.out _; exact bP m.out⟩, ⟨by (with_reducible repeat (first | refine Zad ?_ _ | refine Zaa ?_ | refine Zab ?_ _)); refine Zbt ?_ ap.out _; (with_reducible repeat (first | refine Zad ?_ _ | refine Zaa ?_ | refine Zab ?_ _)); refine Zbt ?_ ap.out _; (with_reducible repeat (first | refine Zad ?_ _ | refine Zaa ?_ | refine Zab ?_ _)); refine Zbt ?_ ap.out _; (with_reducible repeat (first | refine Zad ?_ _ | refine Zaa ?_ | refine Zab ?_ _)); refine Zbt ?_ ap.out _; exact bP q.out⟩, ⟨by (with_reducible repeat (first | refine Zad ?_ _ | refine Zaa ?_ | refine Zab ?_ _)); refine Zau (cs := #[.int .i64 x, .int .i64 0, .slice none 0 0, .slice none 0 0]) ?_ 3 _ rfl; (with_reducible repeat (first | refine Zad ?_ _ | refine Zaa ?_ | refine Zab ?_ _)); refine Zau (cs := #[.int .i64 x, .int .i64 0, .slice none 0 0, .slice none 0 0]) ?_ 2 _ rfl; (with_reducible repeat (first | refine Zad ?_ _ | refine Zaa ?_ | refine Zab ?_ _)); refine Zau (cs := #[.int .i64 x, .int .i64 0, .slice none 0 0, .slice none 0 0]) ?_ 1 _ rfl; (with_reducible repeat (first | refine Zad ?_ _ | refine Zaa ?_ | refine Zab ?_ _)); refine Zau (cs := #[.int .i64 0, .int .i64 0, .slice none 0 0, .slice none 0 0]) ?_ 0 _ rfl; exact bP l.out⟩, ⟨bW⟩⟩
 case round =>
  clear H' fR fS gn ee ef eg eh em en eo ep ev ew ey ez eE eF eG eH ei ej ek el er es et eu eA eB eC eD eI eJ eL eM bv bR bn cD bo cE
  obtain ⟨bV, v, aY, B, s, aq, ar, rfl, HA, bx, E, z, d, c, a, m, q, l, HB⟩ := hrel
  cases gk with
  | zero => exact absurd HA.out (by simp [Zal.l0])
  | succ k1 =>
   have H := HA.out
   clear HA
   simp only [Zal.l0] at H
   by_cases cn : v < (bV.length : Int); rotate_left
   ·rw [if_neg cn] at H
    have dS := dF cn
    clear cn
    simp only [Option.some.injEq, Prod.mk.injEq] at H
    obtain ⟨rfl, rfl, rfl, rfl⟩ := H
    obtain ⟨h1, h2, fp⟩ := zP z.out
    subst fp
    have hA := aW.out
    have hB := aj.out
    have hC := a7.out
    have hD := ao.out
    have hE := aX.out
    have hF := ap.out
    have gr : wr.cell? ⟨J, 0, none⟩ = some (.int .i64 x) := bc l 0
    have gs : wr.cell? ⟨J, 1, none⟩ = some (.int .i64 0) := bc l 1
    have gu : wr.cell? ⟨J, 2, none⟩ = some (aq) := bc l 2
    have gv : wr.cell? ⟨J, 3, none⟩ = some (ar) := bc l 3
    have gw := Zae l.out 0
    have gx := Zae l.out 1
    have gy := Zae l.out 2
    have gz := Zae l.out 3
    have hG := aV.out
    have hH := aU.out
    have hI := an.out
    have hJ := aP.out
    have gA : wr.cell? ⟨T, 0, none⟩ = some (.int .i64 0) := bc m 0
    have gB : wr.cell? ⟨T, 1, none⟩ = some (.int .i64 0) := bc m 1
    have gC : wr.cell? ⟨T, 2, none⟩ = some (.slice none 0 0) := bc m 2
    have gD : wr.cell? ⟨T, 3, none⟩ = some (.slice none 0 0) := bc m 3
    have gF := Zae m.out 0
    have gG := Zae m.out 1
    have gH := Zae m.out 2
    have gI := Zae m.out 3
    obtain ⟨ca, cb, fq⟩ := zP d.out
    subst fq
    obtain ⟨cF, cG, fr⟩ := yE c.out
    subst fr
    go_wp2
    refine bodyPost_ret (results_cell_row rfl _ _ T 77 #[.int .i64 x, .int .i64 0, .slice ca B.length cb, .slice cF s.length cG] (0, 0) _ rfl (by (with_reducible repeat (first | refine Zad ?_ _ | refine Zaa ?_ | refine Zab ?_ _)); refine Zau (cs := #[.int .i64 x, .int .i64 0, .slice ca B.length cb, .slice none 0 0]) ?_ 3 _ rfl; (with_reducible repeat (first | refine Zad ?_ _ | refine Zaa ?_ | refine Zab ?_ _)); refine Zau (cs := #[.int .i64 x, .int .i64 0, .slice none 0 0, .slice none 0 0]) ?_ 2 _ rfl; (with_reducible repeat (first | refine Zad ?_ _ | refine Zaa ?_ | refine Zab ?_ _)); refine Zau (cs := #[.int .i64 x, .int .i64 0, .slice none 0 0, .slice none 0 0]) ?_ 1 _ rfl; (with_reducible repeat (first | refine Zad ?_ _ | refine Zaa ?_ | refine Zab ?_ _)); refine Zau (cs := #[.int .i64 0, .int .i64 0, .slice none 0 0, .slice none 0 0]) ?_ 0 _ rfl; exact bP m.out) Tryd.underlying77 rfl (by kernel_rfl)) rfl ?_
    exact ⟨_, _, eW, by (with_reducible repeat (first | apply zC | apply zD | apply zA)); exact zB (zF (p := ⟨T, 3, none⟩) (zF (p := ⟨T, 2, none⟩) (zF (p := ⟨T, 1, none⟩) (zF (p := ⟨T, 0, none⟩) (zV d.out m.out (by decide)) (fun _ hk => hk.2) (.int .i64 x)) (fun _ hk => hk.2) (.int .i64 0)) (fun _ hk => hk.2) (.slice ca B.length cb)) (fun _ hk => hk.2) (.slice cF s.length cG)) (fun _ hk => trivial), by (with_reducible repeat (first | apply zL | apply zM | apply zH)); exact zG (zE (p := ⟨T, 3, none⟩) (zE (p := ⟨T, 2, none⟩) (zE (p := ⟨T, 1, none⟩) (zE (p := ⟨T, 0, none⟩) (zX c.out m.out (by decide)) (fun _ hk => hk.2) (.int .i64 x)) (fun _ hk => hk.2) (.int .i64 0)) (fun _ hk => hk.2) (.slice ca B.length cb)) (fun _ hk => hk.2) (.slice cF s.length cG)) (fun _ hk => trivial), bW⟩
   rw [if_pos cn] at H
   have dS := dT cn
   clear cn
   obtain ⟨e7, cH⟩ : ∃ y_ : List Int, y_ = (([] : List Int)) := ⟨_, rfl⟩
   replace H : (Zal.l1 k1 u bV v e7 x 0 x D O y aY x 0 B s) = some (r1, r2, r3, r4) := by rw [cH]; with_reducible exact H
   have dU := mA cH
   clear cH
   have H' := mA H
   clear H
   obtain ⟨ix, iy, gJ⟩ := zP z.out
   subst gJ
   go_wp2_with (first | ((with_reducible refine Zat (N := 47) rfl ?_); refine yP (Kd.int .i64) _ 2 ?hg (N := 47) ?hd (xs := ([] : List Int)) (inner := []) (ok := fun _ => True) (okp := fun _ => True) ?hr ?hp (fun _ hk => hk) trivial (Below.refl _ _) (Nat.le_refl _) (by simp) ?_; (case hd => rfl); (case hg => rfl); (case hr => first | (go_simp; done) | (go_simp; rfl)); (case hp => exact (Reps.none _ _)); intro iz iP bq hb hg_ hnew_; clear hg_ hnew_; (first | rw [← dU.out] at bq | (simp only [Int.reduceToNat] at bq; rw [← dU.out] at bq)); replace d := mA (zK (rP d.out) hb); replace c := mA (yQ (sP c.out) (zU bq) hb); have fs := mA (zS (yC (yC bq (zI (rP E.out))) (zI (rP z.out))) (Zaj (bW))); replace E := mA (zZ (rP E.out) (zU bq) hb); replace z := mA (zZ (rP z.out) (zU bq) hb); replace a := mA (blkB a.out hb); replace m := mA (blkB m.out hb); replace q := mA (blkB q.out hb); replace l := mA (blkB l.out hb); replace HB := mA (Zaf (bW) hb); clear hb bq; have h3 := aU.out; have h4 := aV.out; have h5 := ai.out; have h6 := aA.out; have h7 := aj.out; have h8 := aW.out; obtain ⟨eN, eO, eP, eQ⟩ := Zbl a.out; obtain ⟨eR, eS, eT, eU⟩ := frz4 a.out))
   go_loopg [6, 9, 50] k1 (fun kq v6 v9 v50 w' => ∃ (r : List Int) (ad : List Int) (P : Int) (I : List (Int × Int)), v50 = .int .i64 P ∧ Zac (Zal.l1 kq u r v ad x P x D O y I x 0 B s = some (r1, r2, r3, r4)) ∧ Zac (kq ≤ k1) ∧ Zac (Kd.R (Kd.int .i64) 2 w' w.heap.size (fun k_ => some k_ ≠ (v6 : Value).ownBlock ∧ some k_ ≠ (v9 : Value).ownBlock) (.slice (some A) u.length W) u) ∧ Zac (Kd.R (Kd.int .i64) 2 w' w.heap.size (fun k_ => some k_ ≠ ((.slice (some A) u.length W) : Value).ownBlock ∧ some k_ ≠ (v9 : Value).ownBlock) v6 r) ∧ Zac (Kd.R (Kd.int .i64) 2 w' w.heap.size (fun k_ => some k_ ≠ ((.slice (some A) u.length W) : Value).ownBlock ∧ some k_ ≠ (v6 : Value).ownBlock) v9 ad) ∧ Zac (Kd.R Kd.bool 4 w' w.heap.size (fun _ => True) aq B) ∧ Zac (Kd.S (Kd.slice 2 (Kd.int .i64)) 22 w' w.heap.size (fun k_ => some k_ ≠ ((.slice (some A) u.length W) : Value).ownBlock ∧ some k_ ≠ (v6 : Value).ownBlock ∧ some k_ ≠ (v9 : Value).ownBlock) ar s) ∧ Zac (w'.heap[G]? = some (.cells #[.int .i64 x, .int .i64 D, (.slice ak O.length ab), (.slice ah y.length ac)] 77 (0, 0))) ∧ Zac (w'.heap[T]? = some (.cells #[.int .i64 0, .int .i64 0, (.slice none 0 0), (.slice none 0 0)] 77 (0, 0))) ∧ Zac (w'.heap[aa]? = some (mobj (Value.int .i64) (Value.int .i64) I)) ∧ Zac (w'.heap[J]? = some (.cells #[.int .i64 x, .int .i64 0, aq, ar] 77 (0, 0))) ∧ Zac (Below w.heap.size w w'))
   case atStart => exact ⟨(bV), (e7), (0), (aY), (eW), H', ⟨Nat.le_refl _⟩, ⟨rP E.out⟩, ⟨rP z.out⟩, ⟨by (with_reducible repeat (first | apply zC | apply zD | apply zA)); exact zB fs.out (fun _ hk => ⟨hk.1.2, hk.2⟩)⟩, ⟨rP d.out⟩, ⟨by (with_reducible repeat (first | apply zL | apply zM | apply zH)); exact zG c.out (fun _ hk => ⟨hk.1.1, ⟨hk.1.2, hk.2⟩⟩)⟩, ⟨bP a.out⟩, ⟨bP m.out⟩, ⟨bP q.out⟩, ⟨bP l.out⟩, ⟨bW⟩⟩
   case round =>
    clear H' dS eN eO eP eQ eR eS eT eU
    obtain ⟨r, ad, P, I, rfl, HA, bz, E, z, U, d, c, a, m, q, l, HB⟩ := hrel
    cases gk with
    | zero => exact absurd HA.out (by simp [Zal.l1])
    | succ k2 =>
     have H := HA.out
     clear HA
     simp only [Zal.l1] at H
     by_cases co : P < x
     ·rw [if_pos co] at H
      have dV := dT co
      clear co
      obtain ⟨ft, H⟩ := gE H
      obtain ⟨fu, H⟩ := gE H
      obtain ⟨fv, H⟩ := gE H
      obtain ⟨fw, H⟩ := gE H
      obtain ⟨fx, H⟩ := gE H
      obtain ⟨fy, H⟩ := gE H
      have dy := mA H
      clear H
      try go_wp2
      replace E := mA (zA E.out)
      replace z := mA (zA z.out)
      replace U := mA (zA U.out)
      replace d := mA (zA d.out)
      replace c := mA (zH c.out)
      replace a := mA (Zaa a.out)
      replace m := mA (Zaa m.out)
      replace q := mA (Zaa q.out)
      replace l := mA (Zaa l.out)
      replace HB := mA (Za1 HB.out)
      obtain ⟨iA, aT, e8⟩ := zP z.out
      (first | subst e8 | (injection e8 with al aG am; have aH := al.symm; have aI := am.symm; clear al aG am; subst aH; subst aI))
      have cI : 0 ≤ (v : Int) := ofD
      have cJ : v < (r.length : Int) := ofD
      obtain ⟨az, gK, bX⟩ := zO (zJ z.out).2.2 v cI cJ
      cases gK
      replace cI := eq_true cI
      replace cJ := eq_true cJ
      have cK : 0 ≤ ((rd r v) : Int) := ofD
      have cL : (rd r v) < (y.length : Int) := ofD
      obtain ⟨a8, hL, e9, gL, a2, cp, cq⟩ := at_L3 b6.out (rd r v) cK cL
      have eX := a2
      cases gL
      replace a2 := (HB.out.cell (wB w a2)).trans a2
      have cr := mA cq
      have hc := mA cp
      clear cq cp
      replace cK := eq_true cK
      replace cL := eq_true cL
      have cM : 0 ≤ (P : Int) := ofD
      have cN : P < ((Zam y (rd r v)).length : Int) := ofD
      obtain ⟨dW, gM, a3⟩ := zO cr.out P cM cN
      have eY := a3
      cases gM
      replace a3 := (HB.out.cell (wB w a3)).trans a3
      replace cM := eq_true cM
      replace cN := eq_true cN
      refine Zck (n := 12) (S := fun w' => w'.cell? ⟨G, 0, none⟩ = some (.int .i64 x) ∧ w'.cell? ⟨G, 1, none⟩ = some (.int .i64 D) ∧ w'.cell? ⟨G, 2, none⟩ = some (.slice ak O.length ab) ∧ w'.cell? ⟨G, 3, none⟩ = some (.slice (some a8) y.length ac) ∧ w'.cell? (az.add (v).toNat) = some (.int .i64 (rd r v)) ∧ w'.cell? (a8.add ((rd r v)).toNat) = some (.slice (some dW) (Zam y (rd r v)).length e9) ∧ w'.cell? (dW.add (P).toNat) = some (.int .i64 (rd (Zam y (rd r v)) P))) (ds := []) #[false, false, false, false, false, false, false, false, false, false, false, false] (by kernel_rfl) rfl rfl ⟨bc a 0, bc a 1, bc a 2, bc a 3, bX, (cB HB eX :), (cB HB eY :)⟩ (fun hHeld => ?_); refine Zb5 Zal.tab14 Zal.bits14 (fun HT_ HW_ => ?_)
      generalize wr.drew = w47 at E z U d c a m q l HB cr bX a2 a3 hHeld ⊢
      refine Zas (i := 0) (N := some 53) (Zap HT_.out (by kernel_rfl)) ?_
      refine Zas (i := 2) (N := some 55) (Zap HT_.out (by kernel_rfl)) ?_
      refine Zas (i := 3) (N := some 56) (Zap HT_.out (by kernel_rfl)) ?_
      refine Zas (i := 4) (N := some 57) (Zap HT_.out (by kernel_rfl)) ?_
      refine Zas (i := 8) (N := some 61) (Zap HT_.out (by kernel_rfl)) ?_
      refine Zbg (i := 1) (N := some 54) (Za0 HT_.out HW_.out (by kernel_rfl)) hHeld ?_
      refine Zbg (i := 5) (N := some 58) (Za0 HT_.out HW_.out (by kernel_rfl)) hHeld ?_
      refine Zas (i := 6) (N := some 59) (Zap HT_.out (by kernel_rfl)) ?_
      refine Zbg (i := 7) (N := some 60) (Za0 HT_.out HW_.out (by kernel_rfl)) hHeld ?_
      refine Zas (i := 9) (N := some 62) (Zap HT_.out (by kernel_rfl)) ?_
      refine Zbg (i := 10) (N := some 63) (Za0 HT_.out HW_.out (by kernel_rfl)) hHeld ?_
      refine Zas (i := 11) (N := some 11) (Zap HT_.out (by kernel_rfl)) ?_
      refine done_ (Zcs HT_.out (by kernel_rfl)) ?_
      go_upto_region 15 with (fail)
      go_cut [72] (fun v72 wc => ∃ (kq : Nat) (bK : Bool), v72 = .bool bK ∧ Zac (Zal.j2 kq u r v ad (rd (Zam y (rd r v)) P) x P bK x D O y I x 0 B s = some (r1, r2, r3, r4)) ∧ Zac (kq ≤ k2) ∧ Zac (Kd.R (Kd.int .i64) 2 wc w.heap.size (fun k_ => some k_ ≠ ((.slice (some az) r.length aT) : Value).ownBlock ∧ some k_ ≠ (u9 : Value).ownBlock) (.slice (some A) u.length W) u) ∧ Zac (Kd.R (Kd.int .i64) 2 wc w.heap.size (fun k_ => some k_ ≠ ((.slice (some A) u.length W) : Value).ownBlock ∧ some k_ ≠ (u9 : Value).ownBlock) (.slice (some az) r.length aT) r) ∧ Zac (Kd.R (Kd.int .i64) 2 wc w.heap.size (fun k_ => some k_ ≠ ((.slice (some A) u.length W) : Value).ownBlock ∧ some k_ ≠ ((.slice (some az) r.length aT) : Value).ownBlock) u9 ad) ∧ Zac (Kd.R Kd.bool 4 wc w.heap.size (fun _ => True) aq B) ∧ Zac (Kd.S (Kd.slice 2 (Kd.int .i64)) 22 wc w.heap.size (fun k_ => some k_ ≠ ((.slice (some A) u.length W) : Value).ownBlock ∧ some k_ ≠ ((.slice (some az) r.length aT) : Value).ownBlock ∧ some k_ ≠ (u9 : Value).ownBlock) ar s) ∧ Zac (wc.heap[G]? = some (.cells #[.int .i64 x, .int .i64 D, (.slice ak O.length ab), (.slice (some a8) y.length ac)] 77 (0, 0))) ∧ Zac (wc.heap[T]? = some (.cells #[.int .i64 0, .int .i64 0, (.slice none 0 0), (.slice none 0 0)] 77 (0, 0))) ∧ Zac (wc.heap[aa]? = some (mobj (Value.int .i64) (Value.int .i64) I)) ∧ Zac (wc.heap[J]? = some (.cells #[.int .i64 x, .int .i64 0, aq, ar] 77 (0, 0))) ∧ Zac (Below w.heap.size w wc))
      case first =>
       have H := dy.out
       clear dy
       by_cases ct : (rd (Zam y (rd r v)) P) < 0
       ·rw [if_pos ct] at H
        have bL := dT ct
        clear ct
        (first | rw [bL] | (simp only [Zcq, i32_w]; rw [bL]) | skip)
        have H' := mA H
        clear H
        go_wp2
        go_meet
        case rel => exact ⟨_, (true), (eW), H', ⟨by have := bx.out; have := bz.out; first | omega | exact Nat.le_refl _⟩, ⟨rP E.out⟩, ⟨rP z.out⟩, ⟨rP U.out⟩, ⟨rP d.out⟩, ⟨sP c.out⟩, ⟨bP a.out⟩, ⟨bP m.out⟩, ⟨bP q.out⟩, ⟨bP l.out⟩, ⟨bW⟩⟩
       rw [if_neg ct] at H
       have bL := dF ct
       clear ct
       (first | rw [bL] | (simp only [Zcq, i32_w]; rw [bL]) | skip)
       obtain ⟨h9, H⟩ := gE H
       obtain ⟨ia, H⟩ := gE H
       have H' := mA H
       clear H
       have dz : 0 ≤ ((rd (Zam y (rd r v)) P) : Int) := ofD
       have dA : (rd (Zam y (rd r v)) P) < (u.length : Int) := ofD
       obtain ⟨fz, gN, he⟩ := zO (zJ E.out).2.2 (rd (Zam y (rd r v)) P) dz dA
       obtain rfl : A = fz := (by injection gN)
       replace dz := eq_true dz
       replace dA := eq_true dA
       go_wp2
       go_meet
       case rel => exact ⟨_, (decide ((rd u (rd (Zam y (rd r v)) P)) < 0)), (eW), H', ⟨by have := bx.out; have := bz.out; first | omega | exact Nat.le_refl _⟩, ⟨rP E.out⟩, ⟨rP z.out⟩, ⟨rP U.out⟩, ⟨rP d.out⟩, ⟨sP c.out⟩, ⟨bP a.out⟩, ⟨bP m.out⟩, ⟨bP q.out⟩, ⟨bP l.out⟩, ⟨bW⟩⟩
      case rest =>
       clear dy dV ft fu fv fw fx fy bX a2 a3 cI cK cM cJ cL cN
       obtain ⟨kq, bK, rfl, HA, bY, E, z, U, d, c, a, m, q, l, HB⟩ := hcut
       cases kq with
       | zero => exact absurd HA.out (by simp [Zal.j2])
       | succ dB =>
        have H := HA.out
        clear HA
        simp only [Zal.j2] at H
        by_cases dX : bK = true
        ·subst dX
         rw [if_pos rfl] at H
         obtain ⟨bC, cO⟩ : ∃ y_ : List Int, y_ = (([(-1)] : List Int)) := ⟨_, rfl⟩
         replace H := bsm cO H
         have dY := mA cO
         clear cO
         by_cases dZ : ad.length + bC.length < 17592186044416; rotate_left
         ·rw [if_neg dZ] at H
          exact absurd H (by simp)
         rw [if_pos dZ] at H
         have fA := mA dZ
         clear dZ
         obtain ⟨gO, d0⟩ := nm ((ad ++ bC) : List Int)
         rw [← d0.out] at H
         have H' := mA H
         clear H
         go_wp2_with (first | ((with_reducible refine Zat (N := 74) rfl ?_); refine yP (Kd.int .i64) _ 2 ?hg (N := 74) ?hd (xs := ([(-1)] : List Int)) (inner := [.int .i64 (-1)]) (ok := fun _ => True) (okp := fun _ => True) ?hr ?hp (fun _ hk => hk) trivial (Below.refl _ _) (Nat.le_refl _) (by simp) ?_; (case hd => rfl); (case hg => rfl); (case hr => first | (go_simp; done) | (go_simp; rfl)); (case hp => exact (Reps.one (show Kd.M (Kd.int .i64) _ _ _ (-1) [.int .i64 (-1)] from rfl) (Reps.none _ _))); intro iB iQ bb hb hg_ hnew_; clear hg_ hnew_; (first | rw [← dY.out] at bb | (simp only [Int.reduceToNat] at bb; rw [← dY.out] at bb)); replace d := mA (zK (rP d.out) hb); replace c := mA (yQ (sP c.out) (zU bb) hb); have bM := mA (zS (yC (yC (yC bb (zI (rP E.out))) (zI (rP z.out))) (zI (rP U.out))) (Zaj (bW))); replace E := mA (zZ (rP E.out) (zU bb) hb); replace z := mA (zZ (rP z.out) (zU bb) hb); replace U := mA (zZ (rP U.out) (zU bb) hb); replace a := mA (blkB a.out hb); replace m := mA (blkB m.out hb); replace q := mA (blkB q.out hb); replace l := mA (blkB l.out hb); replace HB := mA (Zaf (bW) hb); clear hb bb; obtain ⟨cQ, cR, gP⟩ := zP bM.out; subst gP) | ((with_reducible refine Za6 (b := .append) (xs := #[.tmp 73, .tmp 74]) rfl ?_); at_builtin; refine xE (Kd.int .i64) (w0 := w) w.heap.size rfl (.tmp 73) (.tmp 74) 22 2 (.int .i64 0) 8 rfl Tryd.underlying22 Zci rfl (by decide) (by omega) u9 ad bC _ _ _ (fun k_ => some k_ ≠ (.slice (some A) u.length W : Value).ownBlock ∧ some k_ ≠ (.slice (some az) r.length aT : Value).ownBlock ∧ some k_ ≠ (.slice cQ bC.length cR : Value).ownBlock) (fun _ => False) rfl rfl ?aO ?aR (fun _ _ h => h) (fun _ h => h.elim) ?aF ?aB ?aS ?aL ?_; (case aR => exact cP ((zJ bM.out).2.2)); (case aB => exact (bW)); (case aF => exact (fun k_ hk => ⟨zT (zI (rP E.out)) k_ hk, zT (zI (rP z.out)) k_ hk, zT (zI (rP bM.out)) k_ hk⟩)); (case aO => exact (by (with_reducible repeat (first | apply zC | apply zD | apply zA)); exact zB U.out (fun _ hk => ⟨hk.1.1, ⟨hk.1.2, hk.2⟩⟩))); (case aS => exact (Zaj (bW))); (case aL => have := fA.out; omega); intro iC iR ho hb hg hat; rw [← d0.out] at ho; replace E := mA (zR (ok := (fun k_ => some k_ ≠ (.slice (some az) r.length aT : Value).ownBlock ∧ some k_ ≠ (.slice cQ bC.length cR : Value).ownBlock)) (by (with_reducible repeat (first | apply zC | apply zD | apply zA)); exact zB E.out (fun _ hk => ⟨⟨hk.1.1, hk.2⟩, hk.1.2⟩)) hg hat); replace z := mA (zR (ok := (fun k_ => some k_ ≠ (.slice (some A) u.length W : Value).ownBlock ∧ some k_ ≠ (.slice cQ bC.length cR : Value).ownBlock)) (by (with_reducible repeat (first | apply zC | apply zD | apply zA)); exact zB z.out (fun _ hk => ⟨⟨hk.1.1, hk.2⟩, hk.1.2⟩)) hg hat); replace d := mA (yB (rP d.out) (zY (rP U.out)) (by decide) hg); replace c := mA (yJ (ok := (fun k_ => some k_ ≠ (.slice (some A) u.length W : Value).ownBlock ∧ some k_ ≠ (.slice (some az) r.length aT : Value).ownBlock ∧ some k_ ≠ (.slice cQ bC.length cR : Value).ownBlock)) (by (with_reducible repeat (first | apply zL | apply zM | apply zH)); exact zG c.out (fun _ hk => ⟨⟨hk.1.1, ⟨hk.1.2.1, hk.2⟩⟩, hk.1.2.2⟩)) hg hat); replace a := mA (Zah (g := G) (o := .cells #[.int .i64 x, .int .i64 D, .slice ak O.length ab, .slice (some a8) y.length ac] 77 (0, 0)) (bP a.out) hg (zN U.out a.out (by decide))); replace m := mA (Zah (g := T) (o := .cells #[.int .i64 0, .int .i64 0, .slice none 0 0, .slice none 0 0] 77 (0, 0)) (bP m.out) hg (zN U.out m.out (by decide))); replace q := mA (Zah (g := aa) (o := mobj (Value.int .i64) (Value.int .i64) I) (bP q.out) hg (Kd.R_nem U.out q.out)); replace l := mA (Zah (g := J) (o := .cells #[.int .i64 x, .int .i64 0, aq, ar] 77 (0, 0)) (bP l.out) hg (zN U.out l.out (by decide))); replace bM := mA (zR (ok := (fun k_ => some k_ ≠ (.slice (some A) u.length W : Value).ownBlock ∧ some k_ ≠ (.slice (some az) r.length aT : Value).ownBlock)) (by (with_reducible repeat (first | apply zC | apply zD | apply zA)); exact zB bM.out (fun _ hk => ⟨⟨hk.1.1.2, hk.1.2⟩, hk.2⟩)) hg hat); replace HB := mA (hb); have fB := mA (ho); clear U ho hb hg hat))
         go_roundg dB
         case measure => have := bx.out; have := bz.out; have := bY.out; omega
         case rel => exact ⟨(r), (gO), (wrap64 (P + 1)), (I), (eW), H', ⟨by have := bx.out; have := bz.out; have := bY.out; omega⟩, ⟨by (with_reducible repeat (first | apply zC | apply zD | apply zA)); exact zB E.out (fun _ hk => ⟨hk.1.1, hk.2⟩)⟩, ⟨by (with_reducible repeat (first | apply zC | apply zD | apply zA)); exact zB z.out (fun _ hk => ⟨hk.1.1, hk.2⟩)⟩, ⟨by (with_reducible repeat (first | apply zC | apply zD | apply zA)); exact zB fB.out (fun _ hk => ⟨hk.1, hk.2.1⟩)⟩, ⟨rP d.out⟩, ⟨by (with_reducible repeat (first | apply zL | apply zM | apply zH)); exact zG c.out (fun _ hk => ⟨hk.1.1, ⟨hk.1.2.1, hk.2⟩⟩)⟩, ⟨bP a.out⟩, ⟨bP m.out⟩, ⟨bP q.out⟩, ⟨bP l.out⟩, ⟨bW⟩⟩
        replace dX := Bool.eq_false_iff.mpr dX
        subst dX
        rw [iF] at H
        obtain ⟨ib, H⟩ := gE H
        obtain ⟨ic, H⟩ := gE H
        by_cases cu : (mhas I (rd u (rd (Zam y (rd r v)) P)) = true)
        ·rw [if_pos cu] at H
         have fC : mhas I (rd u (rd (Zam y (rd r v)) P)) = true := cu
         clear cu
         obtain ⟨bD, cS⟩ : ∃ y_ : List Int, y_ = (([mget 0 I (rd u (rd (Zam y (rd r v)) P))] : List Int)) := ⟨_, rfl⟩
         replace H := bsm cS H
         have d1 := mA cS
         clear cS
         by_cases d2 : ad.length + bD.length < 17592186044416; rotate_left
         ·rw [if_neg d2] at H
          exact absurd H (by simp)
         rw [if_pos d2] at H
         have fD := mA d2
         clear d2
         obtain ⟨gQ, d3⟩ := nm ((ad ++ bD) : List Int)
         rw [← d3.out] at H
         have H' := mA H
         clear H
         have bE : 0 ≤ ((rd (Zam y (rd r v)) P) : Int) := ofD
         have bF : (rd (Zam y (rd r v)) P) < (u.length : Int) := ofD
         obtain ⟨cT, dC, eZ⟩ := zO (zJ E.out).2.2 (rd (Zam y (rd r v)) P) bE bF
         obtain rfl : A = cT := (by injection dC)
         replace bE := eq_true bE
         replace bF := eq_true bF
         go_wp2_with (first | ((with_reducible refine Zat (N := 82) rfl ?_); refine mgetS (eK := (Value.int .i64)) (eV := (Value.int .i64)) (g := aa) (L := I) 0 (rd u (rd (Zam y (rd r v)) P)) (mkey_int .i64) (bP q.out) Tryd.underlying159 Tryd.underlying2 (Tryd.zeroValue2 _) ?_) | ((with_reducible refine Zat (N := 101) rfl ?_); refine yP (Kd.int .i64) _ 2 ?hg (N := 101) ?hd (xs := ([mget 0 I (rd u (rd (Zam y (rd r v)) P))] : List Int)) (inner := [.int .i64 (mget 0 I (rd u (rd (Zam y (rd r v)) P)))]) (ok := fun _ => True) (okp := fun _ => True) ?hr ?hp (fun _ hk => hk) trivial (Below.refl _ _) (Nat.le_refl _) (by simp) ?_; (case hd => rfl); (case hg => rfl); (case hr => first | (go_simp; done) | (go_simp; rfl)); (case hp => exact (Reps.one (show Kd.M (Kd.int .i64) _ _ _ (mget 0 I (rd u (rd (Zam y (rd r v)) P))) [.int .i64 (mget 0 I (rd u (rd (Zam y (rd r v)) P)))] from rfl) (Reps.none _ _))); intro iD iS bd hb hg_ hnew_; clear hg_ hnew_; (first | rw [← d1.out] at bd | (simp only [Int.reduceToNat] at bd; rw [← d1.out] at bd)); replace d := mA (zK (rP d.out) hb); replace c := mA (yQ (sP c.out) (zU bd) hb); have bN := mA (zS (yC (yC (yC bd (zI (rP E.out))) (zI (rP z.out))) (zI (rP U.out))) (Zaj (bW))); replace E := mA (zZ (rP E.out) (zU bd) hb); replace z := mA (zZ (rP z.out) (zU bd) hb); replace U := mA (zZ (rP U.out) (zU bd) hb); replace a := mA (blkB a.out hb); replace m := mA (blkB m.out hb); replace q := mA (blkB q.out hb); replace l := mA (blkB l.out hb); replace HB := mA (Zaf (bW) hb); clear hb bd; obtain ⟨cU, cV, gR⟩ := zP bN.out; subst gR) | ((with_reducible refine Za6 (b := .append) (xs := #[.tmp 99, .tmp 101]) rfl ?_); at_builtin; refine xE (Kd.int .i64) (w0 := w) w.heap.size rfl (.tmp 99) (.tmp 101) 22 2 (.int .i64 0) 8 rfl Tryd.underlying22 Zci rfl (by decide) (by omega) u9 ad bD _ _ _ (fun k_ => some k_ ≠ (.slice (some A) u.length W : Value).ownBlock ∧ some k_ ≠ (.slice (some az) r.length aT : Value).ownBlock ∧ some k_ ≠ (.slice cU bD.length cV : Value).ownBlock) (fun _ => False) rfl rfl ?aO ?aR (fun _ _ h => h) (fun _ h => h.elim) ?aF ?aB ?aS ?aL ?_; (case aR => exact cP ((zJ bN.out).2.2)); (case aB => exact (bW)); (case aF => exact (fun k_ hk => ⟨zT (zI (rP E.out)) k_ hk, zT (zI (rP z.out)) k_ hk, zT (zI (rP bN.out)) k_ hk⟩)); (case aO => exact (by (with_reducible repeat (first | apply zC | apply zD | apply zA)); exact zB U.out (fun _ hk => ⟨hk.1.1, ⟨hk.1.2, hk.2⟩⟩))); (case aS => exact (Zaj (bW))); (case aL => have := fD.out; omega); intro iE w64 ho hb hg hat; rw [← d3.out] at ho; replace E := mA (zR (ok := (fun k_ => some k_ ≠ (.slice (some az) r.length aT : Value).ownBlock ∧ some k_ ≠ (.slice cU bD.length cV : Value).ownBlock)) (by (with_reducible repeat (first | apply zC | apply zD | apply zA)); exact zB E.out (fun _ hk => ⟨⟨hk.1.1, hk.2⟩, hk.1.2⟩)) hg hat); replace z := mA (zR (ok := (fun k_ => some k_ ≠ (.slice (some A) u.length W : Value).ownBlock ∧ some k_ ≠ (.slice cU bD.length cV : Value).ownBlock)) (by (with_reducible repeat (first | apply zC | apply zD | apply zA)); exact zB z.out (fun _ hk => ⟨⟨hk.1.1, hk.2⟩, hk.1.2⟩)) hg hat); replace d := mA (yB (rP d.out) (zY (rP U.out)) (by decide) hg); replace c := mA (yJ (ok := (fun k_ => some k_ ≠ (.slice (some A) u.length W : Value).ownBlock ∧ some k_ ≠ (.slice (some az) r.length aT : Value).ownBlock ∧ some k_ ≠ (.slice cU bD.length cV : Value).ownBlock)) (by (with_reducible repeat (first | apply zL | apply zM | apply zH)); exact zG c.out (fun _ hk => ⟨⟨hk.1.1, ⟨hk.1.2.1, hk.2⟩⟩, hk.1.2.2⟩)) hg hat); replace a := mA (Zah (g := G) (o := .cells #[.int .i64 x, .int .i64 D, .slice ak O.length ab, .slice (some a8) y.length ac] 77 (0, 0)) (bP a.out) hg (zN U.out a.out (by decide))); replace m := mA (Zah (g := T) (o := .cells #[.int .i64 0, .int .i64 0, .slice none 0 0, .slice none 0 0] 77 (0, 0)) (bP m.out) hg (zN U.out m.out (by decide))); replace q := mA (Zah (g := aa) (o := mobj (Value.int .i64) (Value.int .i64) I) (bP q.out) hg (Kd.R_nem U.out q.out)); replace l := mA (Zah (g := J) (o := .cells #[.int .i64 x, .int .i64 0, aq, ar] 77 (0, 0)) (bP l.out) hg (zN U.out l.out (by decide))); replace bN := mA (zR (ok := (fun k_ => some k_ ≠ (.slice (some A) u.length W : Value).ownBlock ∧ some k_ ≠ (.slice (some az) r.length aT : Value).ownBlock)) (by (with_reducible repeat (first | apply zC | apply zD | apply zA)); exact zB bN.out (fun _ hk => ⟨⟨hk.1.1.2, hk.1.2⟩, hk.2⟩)) hg hat); replace HB := mA (hb); have fE := mA (ho); clear U ho hb hg hat))
         go_roundg dB
         case measure => have := bx.out; have := bz.out; have := bY.out; omega
         case rel => exact ⟨(r), (gQ), (wrap64 (P + 1)), (I), (eW), H', ⟨by have := bx.out; have := bz.out; have := bY.out; omega⟩, ⟨by (with_reducible repeat (first | apply zC | apply zD | apply zA)); exact zB E.out (fun _ hk => ⟨hk.1.1, hk.2⟩)⟩, ⟨by (with_reducible repeat (first | apply zC | apply zD | apply zA)); exact zB z.out (fun _ hk => ⟨hk.1.1, hk.2⟩)⟩, ⟨by (with_reducible repeat (first | apply zC | apply zD | apply zA)); exact zB fE.out (fun _ hk => ⟨hk.1, hk.2.1⟩)⟩, ⟨rP d.out⟩, ⟨by (with_reducible repeat (first | apply zL | apply zM | apply zH)); exact zG c.out (fun _ hk => ⟨hk.1.1, ⟨hk.1.2.1, hk.2⟩⟩)⟩, ⟨bP a.out⟩, ⟨bP m.out⟩, ⟨bP q.out⟩, ⟨bP l.out⟩, ⟨bW⟩⟩
        rw [if_neg cu] at H
        have fC : mhas I (rd u (rd (Zam y (rd r v)) P)) = false := by simpa using cu
        clear cu
        obtain ⟨aZ, cW⟩ : ∃ y_ : List Int, y_ = (([(rd (Zam y (rd r v)) P)] : List Int)) := ⟨_, rfl⟩
        replace H := bsm cW H
        have d4 := mA cW
        clear cW
        by_cases d5 : r.length + aZ.length < 17592186044416; rotate_left
        ·rw [if_neg d5] at H
         exact absurd H (by simp)
        rw [if_pos d5] at H
        have fF := mA d5
        clear d5
        obtain ⟨gS, d6⟩ := nm ((r ++ aZ) : List Int)
        rw [← d6.out] at H
        obtain ⟨br, cX⟩ : ∃ y_ : List Int, y_ = (([(r.length : Int)] : List Int)) := ⟨_, rfl⟩
        replace H := bsm cX H
        have d7 := mA cX
        clear cX
        by_cases d8 : ad.length + br.length < 17592186044416; rotate_left
        ·rw [if_neg d8] at H
         exact absurd H (by simp)
        rw [if_pos d8] at H
        have fG := mA d8
        clear d8
        obtain ⟨gT, d9⟩ := nm ((ad ++ br) : List Int)
        rw [← d9.out] at H
        have H' := mA H
        clear H
        have bE : 0 ≤ ((rd (Zam y (rd r v)) P) : Int) := ofD
        have bF : (rd (Zam y (rd r v)) P) < (u.length : Int) := ofD
        obtain ⟨cT, dC, eZ⟩ := zO (zJ E.out).2.2 (rd (Zam y (rd r v)) P) bE bF
        obtain rfl : A = cT := (by injection dC)
        replace bE := eq_true bE
        replace bF := eq_true bF
        go_wp2_with (first | ((with_reducible refine Zat (N := 82) rfl ?_); refine mgetS (eK := (Value.int .i64)) (eV := (Value.int .i64)) (g := aa) (L := I) 0 (rd u (rd (Zam y (rd r v)) P)) (mkey_int .i64) (bP q.out) Tryd.underlying159 Tryd.underlying2 (Tryd.zeroValue2 _) ?_; have dD : 0 ≤ ((rd (Zam y (rd r v)) P) : Int) := ofD; have dE : (rd (Zam y (rd r v)) P) < (u.length : Int) := ofD; obtain ⟨fH, gU, hf⟩ := zO (zJ E.out).2.2 (rd (Zam y (rd r v)) P) dD dE; obtain rfl : A = fH := (by injection gU); replace dD := eq_true dD; replace dE := eq_true dE) | ((with_reducible refine gate_mset (t := 159) rfl ?_); refine msetS (eK := (Value.int .i64)) (eV := (Value.int .i64)) (g := aa) (L := I) (rd u (rd (Zam y (rd r v)) P)) (r.length : Int) (mkey_int .i64) (bP q.out) Tryd.underlying159 Tryd.underlying2 ?_; intro iT hbk hg; replace E := mA (Kd.R_mset (rP E.out) (bP q.out) hg); replace z := mA (Kd.R_mset (rP z.out) (bP q.out) hg); replace U := mA (Kd.R_mset (rP U.out) (bP q.out) hg); replace d := mA (Kd.R_mset (rP d.out) (bP q.out) hg); replace c := mA (Kd.S_mset (sP c.out) (bP q.out) hg); replace a := mA (Zah (g := G) (o := .cells #[.int .i64 x, .int .i64 D, .slice ak O.length ab, .slice (some a8) y.length ac] 77 (0, 0)) (bP a.out) hg (fun e_ => ai.out (Option.some.inj e_))); replace m := mA (Zah (g := T) (o := .cells #[.int .i64 0, .int .i64 0, .slice none 0 0, .slice none 0 0] 77 (0, 0)) (bP m.out) hg (fun e_ => an.out (Option.some.inj e_))); replace q := mA (hbk); replace l := mA (Zah (g := J) (o := .cells #[.int .i64 x, .int .i64 0, aq, ar] 77 (0, 0)) (bP l.out) hg (fun e_ => aX.out (Option.some.inj e_))); replace HB := mA ((fun h_ => Below.grown h_ hg h_.size (fun k_ e_ => by injection e_ with e_; rw [← e_]; exact a1.out)) (bW)); clear hg hbk) | ((with_reducible refine Zat (N := 97) rfl ?_); refine yP (Kd.int .i64) _ 2 ?hg (N := 97) ?hd (xs := ([(rd (Zam y (rd r v)) P)] : List Int)) (inner := [.int .i64 (rd (Zam y (rd r v)) P)]) (ok := fun _ => True) (okp := fun _ => True) ?hr ?hp (fun _ hk => hk) trivial (Below.refl _ _) (Nat.le_refl _) (by simp) ?_; (case hd => rfl); (case hg => rfl); (case hr => first | (go_simp; done) | (go_simp; rfl)); (case hp => exact (Reps.one (show Kd.M (Kd.int .i64) _ _ _ (rd (Zam y (rd r v)) P) [.int .i64 (rd (Zam y (rd r v)) P)] from rfl) (Reps.none _ _))); intro iG iU bf hb hg_ hnew_; clear hg_ hnew_; (first | rw [← d4.out] at bf | (simp only [Int.reduceToNat] at bf; rw [← d4.out] at bf)); replace d := mA (zK (rP d.out) hb); replace c := mA (yQ (sP c.out) (zU bf) hb); have aQ := mA (zS (yC (yC (yC bf (zI (rP E.out))) (zI (rP z.out))) (zI (rP U.out))) (Zaj (bW))); replace E := mA (zZ (rP E.out) (zU bf) hb); replace z := mA (zZ (rP z.out) (zU bf) hb); replace U := mA (zZ (rP U.out) (zU bf) hb); replace a := mA (blkB a.out hb); replace m := mA (blkB m.out hb); replace q := mA (blkB q.out hb); replace l := mA (blkB l.out hb); replace HB := mA (Zaf (bW) hb); clear hb bf; obtain ⟨bg, bh, gV⟩ := zP aQ.out; subst gV) | ((with_reducible refine Za6 (b := .append) (xs := #[.tmp 95, .tmp 97]) rfl ?_); at_builtin; refine xE (Kd.int .i64) (w0 := w) w.heap.size rfl (.tmp 95) (.tmp 97) 22 2 (.int .i64 0) 8 rfl Tryd.underlying22 Zci rfl (by decide) (by omega) (.slice (some az) r.length aT) r aZ _ _ _ (fun k_ => some k_ ≠ (.slice (some A) u.length W : Value).ownBlock ∧ some k_ ≠ (u9 : Value).ownBlock ∧ some k_ ≠ (.slice bg aZ.length bh : Value).ownBlock) (fun _ => False) rfl rfl ?aO ?aR (fun _ _ h => h) (fun _ h => h.elim) ?aF ?aB ?aS ?aL ?_; (case aR => exact cP ((zJ aQ.out).2.2)); (case aB => exact (bW)); (case aF => exact (fun k_ hk => ⟨zT (zI (rP E.out)) k_ hk, zT (zI (rP U.out)) k_ hk, zT (zI (rP aQ.out)) k_ hk⟩)); (case aO => exact (by (with_reducible repeat (first | apply zC | apply zD | apply zA)); exact zB z.out (fun _ hk => ⟨hk.1.1, ⟨hk.1.2, hk.2⟩⟩))); (case aS => exact (Zaj (bW))); (case aL => have := fF.out; omega); intro cf iV ho hb hg hat; rw [← d6.out] at ho; replace E := mA (zR (ok := (fun k_ => some k_ ≠ (u9 : Value).ownBlock ∧ some k_ ≠ (.slice bg aZ.length bh : Value).ownBlock)) (by (with_reducible repeat (first | apply zC | apply zD | apply zA)); exact zB E.out (fun _ hk => ⟨⟨hk.1.2, hk.2⟩, hk.1.1⟩)) hg hat); replace U := mA (zR (ok := (fun k_ => some k_ ≠ (.slice (some A) u.length W : Value).ownBlock ∧ some k_ ≠ (.slice bg aZ.length bh : Value).ownBlock)) (by (with_reducible repeat (first | apply zC | apply zD | apply zA)); exact zB U.out (fun _ hk => ⟨⟨hk.1.1, hk.2⟩, hk.1.2⟩)) hg hat); replace d := mA (yB (rP d.out) (zY (rP z.out)) (by decide) hg); replace c := mA (yJ (ok := (fun k_ => some k_ ≠ (.slice (some A) u.length W : Value).ownBlock ∧ some k_ ≠ (u9 : Value).ownBlock ∧ some k_ ≠ (.slice bg aZ.length bh : Value).ownBlock)) (by (with_reducible repeat (first | apply zL | apply zM | apply zH)); exact zG c.out (fun _ hk => ⟨⟨hk.1.1, ⟨hk.1.2.2, hk.2⟩⟩, hk.1.2.1⟩)) hg hat); replace a := mA (Zah (g := G) (o := .cells #[.int .i64 x, .int .i64 D, .slice ak O.length ab, .slice (some a8) y.length ac] 77 (0, 0)) (bP a.out) hg (zN z.out a.out (by decide))); replace m := mA (Zah (g := T) (o := .cells #[.int .i64 0, .int .i64 0, .slice none 0 0, .slice none 0 0] 77 (0, 0)) (bP m.out) hg (zN z.out m.out (by decide))); replace q := mA (Zah (g := aa) (o := mobj (Value.int .i64) (Value.int .i64) (mset I (rd u (rd (Zam y (rd r v)) P)) (r.length : Int))) (bP q.out) hg (Kd.R_nem z.out q.out)); replace l := mA (Zah (g := J) (o := .cells #[.int .i64 x, .int .i64 0, aq, ar] 77 (0, 0)) (bP l.out) hg (zN z.out l.out (by decide))); replace aQ := mA (zR (ok := (fun k_ => some k_ ≠ (.slice (some A) u.length W : Value).ownBlock ∧ some k_ ≠ (u9 : Value).ownBlock)) (by (with_reducible repeat (first | apply zC | apply zD | apply zA)); exact zB aQ.out (fun _ hk => ⟨⟨hk.1.1.2, hk.2⟩, hk.1.2⟩)) hg hat); replace HB := mA (hb); have bi := mA (ho); clear z ho hb hg hat) | ((with_reducible refine Zat (N := 101) rfl ?_); refine yP (Kd.int .i64) _ 2 ?hg (N := 101) ?hd (xs := ([(r.length : Int)] : List Int)) (inner := [.int .i64 (r.length : Int)]) (ok := fun _ => True) (okp := fun _ => True) ?hr ?hp (fun _ hk => hk) trivial (Below.refl _ _) (Nat.le_refl _) (by simp) ?_; (case hd => rfl); (case hg => rfl); (case hr => first | (go_simp; done) | (go_simp; rfl)); (case hp => exact (Reps.one (show Kd.M (Kd.int .i64) _ _ _ (r.length : Int) [.int .i64 (r.length : Int)] from rfl) (Reps.none _ _))); intro iH iW a9 hb hg_ hnew_; clear hg_ hnew_; (first | rw [← d7.out] at a9 | (simp only [Int.reduceToNat] at a9; rw [← d7.out] at a9)); replace d := mA (zK (rP d.out) hb); replace c := mA (yQ (sP c.out) (zU a9) hb); have bO := mA (zS (yC (yC (yC (yC a9 (zI (rP E.out))) (zI (rP U.out))) (zI (rP aQ.out))) (zI (rP bi.out))) (Zaj (bW))); replace E := mA (zZ (rP E.out) (zU a9) hb); replace U := mA (zZ (rP U.out) (zU a9) hb); replace aQ := mA (zZ (rP aQ.out) (zU a9) hb); replace bi := mA (zZ (rP bi.out) (zU a9) hb); replace a := mA (blkB a.out hb); replace m := mA (blkB m.out hb); replace q := mA (blkB q.out hb); replace l := mA (blkB l.out hb); replace HB := mA (Zaf (bW) hb); clear hb a9; obtain ⟨cg, ch, gW⟩ := zP bO.out; subst gW) | ((with_reducible refine Za6 (b := .append) (xs := #[.tmp 99, .tmp 101]) rfl ?_); at_builtin; refine xE (Kd.int .i64) (w0 := w) w.heap.size rfl (.tmp 99) (.tmp 101) 22 2 (.int .i64 0) 8 rfl Tryd.underlying22 Zci rfl (by decide) (by omega) u9 ad br _ _ _ (fun k_ => some k_ ≠ (.slice (some A) u.length W : Value).ownBlock ∧ some k_ ≠ (.slice bg aZ.length bh : Value).ownBlock ∧ some k_ ≠ (cf : Value).ownBlock ∧ some k_ ≠ (.slice cg br.length ch : Value).ownBlock) (fun _ => False) rfl rfl ?aO ?aR (fun _ _ h => h) (fun _ h => h.elim) ?aF ?aB ?aS ?aL ?_; (case aR => exact cP ((zJ bO.out).2.2)); (case aB => exact (bW)); (case aF => exact (fun k_ hk => ⟨zT (zI (rP E.out)) k_ hk, zT (zI (rP aQ.out)) k_ hk, zT (zI (rP bi.out)) k_ hk, zT (zI (rP bO.out)) k_ hk⟩)); (case aO => exact (by (with_reducible repeat (first | apply zC | apply zD | apply zA)); exact zB U.out (fun _ hk => ⟨hk.1.1.1, ⟨hk.1.1.2, ⟨hk.1.2, hk.2⟩⟩⟩))); (case aS => exact (Zaj (bW))); (case aL => have := fG.out; omega); intro iI iX ho hb hg hat; rw [← d9.out] at ho; replace E := mA (zR (ok := (fun k_ => some k_ ≠ (.slice bg aZ.length bh : Value).ownBlock ∧ some k_ ≠ (cf : Value).ownBlock ∧ some k_ ≠ (.slice cg br.length ch : Value).ownBlock)) (by (with_reducible repeat (first | apply zC | apply zD | apply zA)); exact zB E.out (fun _ hk => ⟨⟨hk.1.1.2, ⟨hk.1.2, hk.2⟩⟩, hk.1.1.1⟩)) hg hat); replace d := mA (yB (rP d.out) (zY (rP U.out)) (by decide) hg); replace c := mA (yJ (ok := (fun k_ => some k_ ≠ (.slice (some A) u.length W : Value).ownBlock ∧ some k_ ≠ (.slice bg aZ.length bh : Value).ownBlock ∧ some k_ ≠ (cf : Value).ownBlock ∧ some k_ ≠ (.slice cg br.length ch : Value).ownBlock)) (by (with_reducible repeat (first | apply zL | apply zM | apply zH)); exact zG c.out (fun _ hk => ⟨⟨hk.1.1.1, ⟨hk.1.1.2.2, ⟨hk.1.2, hk.2⟩⟩⟩, hk.1.1.2.1⟩)) hg hat); replace a := mA (Zah (g := G) (o := .cells #[.int .i64 x, .int .i64 D, .slice ak O.length ab, .slice (some a8) y.length ac] 77 (0, 0)) (bP a.out) hg (zN U.out a.out (by decide))); replace m := mA (Zah (g := T) (o := .cells #[.int .i64 0, .int .i64 0, .slice none 0 0, .slice none 0 0] 77 (0, 0)) (bP m.out) hg (zN U.out m.out (by decide))); replace q := mA (Zah (g := aa) (o := mobj (Value.int .i64) (Value.int .i64) (mset I (rd u (rd (Zam y (rd r v)) P)) (r.length : Int))) (bP q.out) hg (Kd.R_nem U.out q.out)); replace l := mA (Zah (g := J) (o := .cells #[.int .i64 x, .int .i64 0, aq, ar] 77 (0, 0)) (bP l.out) hg (zN U.out l.out (by decide))); replace aQ := mA (zR (ok := (fun k_ => some k_ ≠ (.slice (some A) u.length W : Value).ownBlock ∧ some k_ ≠ (cf : Value).ownBlock ∧ some k_ ≠ (.slice cg br.length ch : Value).ownBlock)) (by (with_reducible repeat (first | apply zC | apply zD | apply zA)); exact zB aQ.out (fun _ hk => ⟨⟨hk.1.1.1, ⟨hk.1.2, hk.2⟩⟩, hk.1.1.2⟩)) hg hat); replace bi := mA (zR (ok := (fun k_ => some k_ ≠ (.slice (some A) u.length W : Value).ownBlock ∧ some k_ ≠ (.slice bg aZ.length bh : Value).ownBlock ∧ some k_ ≠ (.slice cg br.length ch : Value).ownBlock)) (by (with_reducible repeat (first | apply zC | apply zD | apply zA)); exact zB bi.out (fun _ hk => ⟨⟨hk.1.1, ⟨hk.1.2.2, hk.2⟩⟩, hk.1.2.1⟩)) hg hat); replace bO := mA (zR (ok := (fun k_ => some k_ ≠ (.slice (some A) u.length W : Value).ownBlock ∧ some k_ ≠ (.slice bg aZ.length bh : Value).ownBlock ∧ some k_ ≠ (cf : Value).ownBlock)) (by (with_reducible repeat (first | apply zC | apply zD | apply zA)); exact zB bO.out (fun _ hk => ⟨⟨hk.1.1.1.2, ⟨hk.1.2, hk.2⟩⟩, hk.1.1.2⟩)) hg hat); replace HB := mA (hb); have fI := mA (ho); clear U ho hb hg hat))
        go_roundg dB
        case measure => have := bx.out; have := bz.out; have := bY.out; omega
        case rel => exact ⟨(gS), (gT), (wrap64 (P + 1)), (mset I (rd u (rd (Zam y (rd r v)) P)) (r.length : Int)), (eW), H', ⟨by have := bx.out; have := bz.out; have := bY.out; omega⟩, ⟨by (with_reducible repeat (first | apply zC | apply zD | apply zA)); exact zB E.out (fun _ hk => ⟨hk.1.2.1, hk.2⟩)⟩, ⟨by (with_reducible repeat (first | apply zC | apply zD | apply zA)); exact zB bi.out (fun _ hk => ⟨hk.1.1, hk.2⟩)⟩, ⟨by (with_reducible repeat (first | apply zC | apply zD | apply zA)); exact zB fI.out (fun _ hk => ⟨hk.1, hk.2.2.1⟩)⟩, ⟨rP d.out⟩, ⟨by (with_reducible repeat (first | apply zL | apply zM | apply zH)); exact zG c.out (fun _ hk => ⟨hk.1.1, ⟨hk.1.2.2.1, hk.2⟩⟩)⟩, ⟨bP a.out⟩, ⟨bP m.out⟩, ⟨bP q.out⟩, ⟨bP l.out⟩, ⟨bW⟩⟩
     rw [if_neg co] at H
     have dV := dF co
     clear co
     obtain ⟨bs, cY⟩ : ∃ y_ : List (List Int), y_ = (([ad] : List (List Int))) := ⟨_, rfl⟩
     replace H := bsm cY H
     have cc := mA cY
     clear cY
     by_cases ea : s.length + bs.length < 5864062014805; rotate_left
     ·rw [if_neg ea] at H
      exact absurd H (by simp)
     rw [if_pos ea] at H
     have cZ := mA ea
     clear ea
     obtain ⟨bj, cd⟩ := nm ((s ++ bs) : List (List Int))
     rw [← cd.out] at H
     obtain ⟨ie, H⟩ := gE H
     obtain ⟨ig, H⟩ := gE H
     obtain ⟨ih, H⟩ := gE H
     obtain ⟨ii, H⟩ := gE H
     obtain ⟨bZ, c0⟩ : ∃ y_ : List Bool, y_ = (([rdOf false O (rd r v)] : List Bool)) := ⟨_, rfl⟩
     replace H := bsm c0 H
     have bw := mA c0
     clear c0
     by_cases eb : B.length + bZ.length < 140737488355328; rotate_left
     ·rw [if_neg eb] at H
      exact absurd H (by simp)
     rw [if_pos eb] at H
     have fJ := mA eb
     clear eb
     obtain ⟨b0, ec⟩ := nm ((B ++ bZ) : List Bool)
     rw [← ec.out] at H
     have H' := mA H
     clear H
     obtain ⟨af, ag, gX⟩ := yE c.out
     subst gX
     obtain ⟨aC, aD, gY⟩ := zP d.out
     subst gY
     try go_wp2
     replace E := mA (zA E.out)
     replace z := mA (zA z.out)
     replace U := mA (zA U.out)
     replace d := mA (zA d.out)
     replace c := mA (zH c.out)
     replace a := mA (Zaa a.out)
     replace m := mA (Zaa m.out)
     replace q := mA (Zaa q.out)
     replace l := mA (Zaa l.out)
     replace HB := mA (Za1 HB.out)
     obtain ⟨iJ, au, fa⟩ := zP z.out
     (first | subst fa | (injection fa with al aG am; have aH := al.symm; have aI := am.symm; clear al aG am; subst aH; subst aI))
     have dG : 0 ≤ (v : Int) := ofD
     have dH : v < (r.length : Int) := ofD
     obtain ⟨ae, gZ, cv⟩ := zO (zJ z.out).2.2 v dG dH
     cases gZ
     replace dG := eq_true dG
     replace dH := eq_true dH
     have dI : 0 ≤ ((rd r v) : Int) := ofD
     have dJ : (rd r v) < (O.length : Int) := ofD
     obtain ⟨aJ, g0, a4⟩ := yD b5.out (rd r v) dI dJ
     (try rw [← cy.out] at a4)
     have ay := a4
     cases g0
     replace a4 := (HB.out.cell (wB w a4)).trans a4
     replace dI := eq_true dI
     replace dJ := eq_true dJ
     obtain ⟨bk, bl, fb⟩ := zP U.out
     (first | subst fb | (injection fb with al aG am; have aH := al.symm; have aI := am.symm; clear al aG am; subst aH; subst aI))
     refine Zck (n := 21) (S := fun w' => w'.cell? ⟨J, 0, none⟩ = some (.int .i64 x) ∧ w'.cell? ⟨J, 1, none⟩ = some (.int .i64 0) ∧ w'.cell? ⟨J, 2, none⟩ = some (.slice aC B.length aD) ∧ w'.cell? ⟨J, 3, none⟩ = some (.slice af s.length ag) ∧ w'.cell? ⟨G, 0, none⟩ = some (.int .i64 x) ∧ w'.cell? ⟨G, 1, none⟩ = some (.int .i64 D) ∧ w'.cell? ⟨G, 2, none⟩ = some (.slice (some aJ) O.length ab) ∧ w'.cell? ⟨G, 3, none⟩ = some (.slice ah y.length ac) ∧ w'.cell? (ae.add (v).toNat) = some (.int .i64 (rd r v)) ∧ w'.cell? (aJ.add ((rd r v)).toNat) = some (.bool (rdOf false O (rd r v)))) (ds := [18, 20]) #[false, false, false, false, false, false, false, false, false, false, false, false, false, false, false, false, false, false, false, false, false] (by kernel_rfl) rfl rfl ⟨bc l 0, bc l 1, bc l 2, bc l 3, bc a 0, bc a 1, bc a 2, bc a 3, cv, (cB HB ay :)⟩ (fun hHeld => ?_); refine Zb5 Zal.tab24 Zal.bits24 (fun HT_ HW_ => ?_)
     generalize wr.drew = w85 at E z U d c a m q l HB cv a4 hHeld ⊢
     refine Zas (i := 0) (N := some 104) (Zap HT_.out (by kernel_rfl)) ?_
     refine Zas (i := 2) (N := some 106) (Zap HT_.out (by kernel_rfl)) ?_
     refine Zas (i := 5) (N := some 109) (Zap HT_.out (by kernel_rfl)) ?_
     refine Zas (i := 7) (N := some 111) (Zap HT_.out (by kernel_rfl)) ?_
     refine Zas (i := 9) (N := some 113) (Zap HT_.out (by kernel_rfl)) ?_
     refine Zas (i := 10) (N := some 114) (Zap HT_.out (by kernel_rfl)) ?_
     refine Zas (i := 11) (N := some 115) (Zap HT_.out (by kernel_rfl)) ?_
     refine Zbg (i := 1) (N := some 105) (Za0 HT_.out HW_.out (by kernel_rfl)) hHeld ?_
     refine Zbg (i := 6) (N := some 110) (Za0 HT_.out HW_.out (by kernel_rfl)) hHeld ?_
     refine Zbg (i := 8) (N := some 112) (Za0 HT_.out HW_.out (by kernel_rfl)) hHeld ?_
     refine Zbg (i := 12) (N := some 116) (Za0 HT_.out HW_.out (by kernel_rfl)) hHeld ?_
     refine Zas (i := 13) (N := some 117) (Zap HT_.out (by kernel_rfl)) ?_
     refine Zbg (i := 14) (N := some 118) (Za0 HT_.out HW_.out (by kernel_rfl)) hHeld ?_
     refine join_ (σ := Value × Value × Value) 4 #[true, true, true, true, true, true, true, true, true, true, true, true, true, true, true, true, false, true, false, false, false] (fun s_ => [(107, s_.1), (108, s_.2.1), (119, s_.2.2), (121, .pointer (some ⟨J, 3, none⟩))]) (fun s_ w' => (w'.cell? ⟨J, 0, none⟩ = some (.int .i64 x) ∧ w'.cell? ⟨J, 1, none⟩ = some (.int .i64 0) ∧ w'.cell? ⟨J, 2, none⟩ = some (.slice aC B.length aD) ∧ w'.cell? ⟨J, 3, none⟩ = some (.slice af s.length ag) ∧ w'.cell? ⟨G, 0, none⟩ = some (.int .i64 x) ∧ w'.cell? ⟨G, 1, none⟩ = some (.int .i64 D) ∧ w'.cell? ⟨G, 2, none⟩ = some (.slice (some aJ) O.length ab) ∧ w'.cell? ⟨G, 3, none⟩ = some (.slice ah y.length ac) ∧ w'.cell? (ae.add (v).toNat) = some (.int .i64 (rd r v)) ∧ w'.cell? (aJ.add ((rd r v)).toNat) = some (.bool (rdOf false O (rd r v)))) ∧ (Kd.S (Kd.slice 2 (Kd.int .i64)) 22 w' w.heap.size (fun k_ => some k_ ≠ (.slice (some A) u.length W : Value).ownBlock ∧ some k_ ≠ (.slice (some ae) r.length au : Value).ownBlock) s_.2.1 bj) ∧ (Kd.R Kd.bool 4 w' w.heap.size (fun k_ => some k_ ≠ (.slice aC B.length aD : Value).ownBlock) s_.2.2 bZ) ∧ (Kd.R (Kd.int .i64) 2 w' w.heap.size (fun k_ => some k_ ≠ (.slice (some ae) r.length au : Value).ownBlock) (.slice (some A) u.length W) u) ∧ (Kd.R (Kd.int .i64) 2 w' w.heap.size (fun k_ => some k_ ≠ (.slice (some A) u.length W : Value).ownBlock) (.slice (some ae) r.length au) r) ∧ (Kd.R Kd.bool 4 w' w.heap.size (fun k_ => some k_ ≠ (s_.2.2 : Value).ownBlock) (.slice aC B.length aD) B) ∧ (w'.heap[G]? = some (.cells #[.int .i64 x, .int .i64 D, .slice (some aJ) O.length ab, .slice ah y.length ac] 77 (0, 0))) ∧ (w'.heap[T]? = some (.cells #[.int .i64 0, .int .i64 0, .slice none 0 0, .slice none 0 0] 77 (0, 0))) ∧ (w'.heap[aa]? = some (mobj (Value.int .i64) (Value.int .i64) I)) ∧ (w'.heap[J]? = some (.cells #[.int .i64 x, .int .i64 0, .slice aC B.length aD, .slice af s.length ag] 77 (0, 0))) ∧ (Below w.heap.size w w')) ?_ ?_
     rotate_left
     ·intro hCont
      refine two_ (i := 3) (j := 15) (Ni := some 107) (Nj := some 119) #[true, true, true, true, false, true, true, true, true, true, true, true, true, true, true, false, false, false, false, false, false] #[true, true, true, false, false, true, true, true, true, true, true, true, true, true, true, true, false, false, false, false, false] rfl rfl rfl rfl (two_of HT_.out (by kernel_rfl)) (by decide) (by decide) (fun K hK => ?_) (fun K hK => ?_); rotate_left
      ·skip
       refine xA Kd.bool _ 4 ?hg (N := 119) ?hd (xs := ([rdOf false O (rd r v)] : List Bool)) (inner := [.bool (rdOf false O (rd r v))]) (ok := fun _ => True) (okp := fun _ => True) ?hr ?hp (fun _ hk => hk) trivial (Below.refl _ _) (Nat.le_refl _) (by simp) ?_; (case hd => rfl); (case hg => rfl); (case hr => first | (go_simp; done) | (go_simp; rfl)); (case hp => exact (Reps.one (show Kd.M Kd.bool _ _ _ (rdOf false O (rd r v)) [.bool (rdOf false O (rd r v))] from rfl) (Reps.none _ _)))
       intro bu fN b1 hb hg_ hnew_
       have aE := (hb.cell (World.block_lt_of_cell? _ _ (hHeld.2.2.2.2.2.2.2.2.1))).trans (hHeld.2.2.2.2.2.2.2.2.1)
       clear hg_ hnew_
       (first | rw [← bw.out] at b1 | (simp only [Int.reduceToNat] at b1; rw [← bw.out] at b1))
       replace E := mA (zK (rP E.out) hb)
       replace z := mA (zK (rP z.out) hb)
       replace U := mA (zK (rP U.out) hb)
       replace c := mA (zW (sP c.out) hb)
       have av := mA (zS (yC b1 (zI (rP d.out))) (Zaj (bW)))
       replace d := mA (zZ (rP d.out) (zU b1) hb)
       replace a := mA (blkB a.out hb)
       replace m := mA (blkB m.out hb)
       replace q := mA (blkB q.out hb)
       replace l := mA (blkB l.out hb)
       replace HB := mA (Zaf (bW) hb)
       clear hb b1
       obtain ⟨bG, bH, fc⟩ := zP U.out
       (first | subst fc | (injection fc with al aG am; have aH := al.symm; have aI := am.symm; clear al aG am; subst aH; subst aI))
       refine hK.out _ _ ⟨bc l 0, bc l 1, bc l 2, bc l 3, bc a 0, bc a 1, bc a 2, bc a 3, aE, (cB HB ay :)⟩ (fun hHeld => ?_)
       clear hK K
       refine putS 119 ?_
       refine one_ (i := 3) (N := some 107) #[true, true, true, true, false, true, true, true, true, true, true, true, true, true, true, true, false, false, false, false, false] rfl rfl (Zbe HT_.out (by kernel_rfl)) (by decide) (fun K hK => ?_)
       obtain ⟨ax, a6⟩ : ∃ n_, Zac (n_ = fN.heap.size) := ⟨_, ⟨rfl⟩⟩
       refine Kd.S_lit1_step (Kd.slice 2 (Kd.int .i64)) w.heap.size 22 ?hg (N := 107) ?hd (xs := ([ad] : List (List Int))) (inner := [.slice bG ad.length bH]) (ok := (fun k_ => (some k_ = (.slice bG ad.length bH : Value).ownBlock ∨ ax ≤ k_) ∧ some k_ ≠ (.slice (some A) u.length W : Value).ownBlock ∧ some k_ ≠ (.slice (some ae) r.length au : Value).ownBlock ∧ some k_ ≠ (.slice af s.length ag : Value).ownBlock)) (okp := (fun k_ => (some k_ = (.slice bG ad.length bH : Value).ownBlock ∨ ax ≤ k_) ∧ some k_ ≠ (.slice (some A) u.length W : Value).ownBlock ∧ some k_ ≠ (.slice (some ae) r.length au : Value).ownBlock ∧ some k_ ≠ (.slice af s.length ag : Value).ownBlock)) ?hr ?hp (fun _ hk => hk) ((show ∀ k_, fN.heap.size ≤ k_ → (fun k_ => (some k_ = (.slice bG ad.length bH : Value).ownBlock ∨ ax ≤ k_) ∧ some k_ ≠ (.slice (some A) u.length W : Value).ownBlock ∧ some k_ ≠ (.slice (some ae) r.length au : Value).ownBlock ∧ some k_ ≠ (.slice af s.length ag : Value).ownBlock) k_ from fun k_ hk => ⟨.inr (Nat.le_trans (Nat.le_of_eq a6.out) hk), ⟨zT (zI (rP E.out)) k_ hk, zT (zI (rP z.out)) k_ hk, zT (yS (sP c.out)) k_ hk⟩⟩) _ (Nat.le_refl _)) (Below.refl _ _) ((Zaj (bW))) (by simp) ?_; (case hd => rfl); (case hg => rfl); (case hr => first | (go_simp; done) | (go_simp; rfl)); (case hp => exact ⟨_, rfl, rfl, Kd.M_row (by (with_reducible repeat (first | apply zC | apply zD | apply zA)); exact (zB (ok' := (fun k_ => (some k_ = (.slice bG ad.length bH : Value).ownBlock ∨ ax ≤ k_) ∧ some k_ ≠ (.slice (some A) u.length W : Value).ownBlock ∧ some k_ ≠ (.slice (some ae) r.length au : Value).ownBlock ∧ some k_ ≠ (.slice af s.length ag : Value).ownBlock)) (Kd.R_tight2 rfl (yG (U.out) (yH c.out) (by decide))) (fun k_ hk => ⟨.inl hk.1, ⟨hk.2.1.1, ⟨hk.2.1.2, hk.2.2⟩⟩⟩)))⟩)
       intro fd fO a0 hb hg_ hnew_
       have aE := (hb.cell (World.block_lt_of_cell? _ _ (hHeld.2.2.2.2.2.2.2.2.1))).trans (hHeld.2.2.2.2.2.2.2.2.1)
       have hown_ := own_new hnew_; clear hg_ hnew_
       (first | rw [← cc.out] at a0 | (simp only [Int.reduceToNat] at a0; rw [← cc.out] at a0))
       replace E := mA (zK (rP E.out) hb)
       replace z := mA (zK (rP z.out) hb)
       replace d := mA (zK (rP d.out) hb)
       replace c := mA (Kd.S_elderI (sP c.out) hown_ hb a6)
       replace av := mA (zK (rP av.out) hb)
       have aK := mA (a0)
       replace a := mA (blkB a.out hb)
       replace m := mA (blkB m.out hb)
       replace q := mA (blkB q.out hb)
       replace l := mA (blkB l.out hb)
       replace HB := mA (Zaf (bW) hb)
       clear U hb a0 hown_ a6
       obtain ⟨dK, dL, ci⟩ := yE aK.out
       (first | subst ci | (injection ci with al aG am; have aH := al.symm; have aI := am.symm; clear al aG am; subst aH; subst aI))
       refine hK.out _ _ ⟨bc l 0, bc l 1, bc l 2, bc l 3, bc a 0, bc a 1, bc a 2, bc a 3, aE, (cB HB ay :)⟩ (fun hHeld => ?_)
       clear hK K
       refine putS 107 ?_
       refine one_ (i := 4) (N := some 108) #[true, true, true, true, true, true, true, true, true, true, true, true, true, true, true, true, false, false, false, false, false] rfl rfl (Zbe HT_.out (by kernel_rfl)) (by decide) (fun K hK => ?_)
       refine Kd.S_append_rows_step (Kd.slice 2 (Kd.int .i64)) (w0 := w) w.heap.size (by rfl) (.tmp 105) (.tmp 107) 37 22 (.slice none 0 0) 24 rfl Tryd.underlying37 info22 rfl (by decide) (by omega) (.slice af s.length ag) s bs _ _ _ (fun k_ => some k_ ≠ (.slice (some A) u.length W : Value).ownBlock ∧ some k_ ≠ (.slice (some ae) r.length au : Value).ownBlock) (fun k_ => (some k_ = (.slice bG ad.length bH : Value).ownBlock ∨ ax ≤ k_) ∧ (((fun k_ => some k_ ≠ (.slice (some A) u.length W : Value).ownBlock ∧ some k_ ≠ (.slice (some ae) r.length au : Value).ownBlock)) k_ ∧ some k_ ≠ (.slice af s.length ag : Value).ownBlock)) rfl rfl ?aO ?aR (fun _ hk => hk.2) ?aF ?aB ?aS ?aL ?_
       (case aR => exact (by (with_reducible repeat (first | apply zL | apply zM | apply zH)); exact zG (ok' := (fun k_ => (some k_ = (.slice bG ad.length bH : Value).ownBlock ∨ ax ≤ k_) ∧ (((fun k_ => some k_ ≠ (.slice (some A) u.length W : Value).ownBlock ∧ some k_ ≠ (.slice (some ae) r.length au : Value).ownBlock)) k_ ∧ some k_ ≠ (.slice af s.length ag : Value).ownBlock))) (aK.out) (fun k_ hk => ⟨hk.1, ⟨⟨hk.2.1, hk.2.2.1⟩, hk.2.2.2⟩⟩)))
       (case aB => exact (bW))
       (case aF => exact (fun k_ hk => ⟨zT (zI (rP E.out)) k_ hk, zT (zI (rP z.out)) k_ hk⟩))
       (case aO => exact (by (with_reducible repeat (first | apply zL | apply zM | apply zH)); exact zG (c.out) (fun k_ hk => ⟨⟨hk.1.1.1, hk.1.1.2.1⟩, fun e_ => e_.1.elim (fun h_ => hk.1.1.2.2 h_) (fun h_ => ltge (hk.2) h_)⟩)))
       (case aS => exact (Zaj (bW)))
       (case aL => have := cZ.out; omega)
       intro bI fP ho hb hg hat
       have aE := Zc3 hg (hHeld.2.2.2.2.2.2.2.2.1) (by first | (rw [Zbb]; exact (fun e_ => (((Kd.S_R c.out).1 _ e_.symm).1.1.2.1) rfl)) | (show some (Addr.add _ _).block ≠ _; rw [Zbb]; exact (fun e_ => (((Kd.S_R c.out).1 _ e_.symm).1.1.2.1) rfl)) | exact (fun e_ => (((Kd.S_R c.out).1 _ e_.symm).1.1.2.1) rfl))
       rw [← cd.out] at ho
       replace E := mA (yB (rP E.out) (yH (sP c.out)) (by decide) hg)
       replace z := mA (yB (rP z.out) (yH (sP c.out)) (by decide) hg)
       replace d := mA (yB (rP d.out) (yH (sP c.out)) (by decide) hg)
       replace a := mA (Zah (g := G) (o := .cells #[.int .i64 x, .int .i64 D, .slice (some aJ) O.length ab, .slice ah y.length ac] 77 (0, 0)) (bP a.out) hg (yN c.out a.out (by decide)))
       replace m := mA (Zah (g := T) (o := .cells #[.int .i64 0, .int .i64 0, .slice none 0 0, .slice none 0 0] 77 (0, 0)) (bP m.out) hg (yN c.out m.out (by decide)))
       replace q := mA (Zah (g := aa) (o := mobj (Value.int .i64) (Value.int .i64) I) (bP q.out) hg (Kd.S_nem c.out q.out))
       replace l := mA (Zah (g := J) (o := .cells #[.int .i64 x, .int .i64 0, .slice aC B.length aD, .slice af s.length ag] 77 (0, 0)) (bP l.out) hg (yN c.out l.out (by decide)))
       replace av := mA (yB (rP av.out) (yH (sP c.out)) (by decide) hg)
       replace HB := mA (hb)
       have aM := mA (ho)
       clear c aK ho hb hg hat
       refine hK.out _ _ ⟨bc l 0, bc l 1, bc l 2, bc l 3, bc a 0, bc a 1, bc a 2, bc a 3, aE, (cB HB ay :)⟩ (fun hHeld => ?_)
       clear hK K
       refine putS 108 ?_
       refine Zas (i := 17) (N := some 121) (Zap HT_.out (by kernel_rfl)) ?_
       exact norm_ (by simp only [Zcy, Act.put, List.setIfInBounds_toArray, List.set_cons_zero, List.set_cons_succ]) (hCont (.slice dK bs.length dL, bI, bu) _ ⟨hHeld, (sP aM.out), (by (with_reducible repeat (first | apply zC | apply zD | apply zA)); exact zB av.out (fun _ hk => hk.2)), (by (with_reducible repeat (first | apply zC | apply zD | apply zA)); exact zB E.out (fun _ hk => hk.1)), (by (with_reducible repeat (first | apply zC | apply zD | apply zA)); exact zB z.out (fun _ hk => hk.1)), (by (with_reducible repeat (first | apply zC | apply zD | apply zA)); exact zB d.out (fun _ hk => hk.2)), (bP a.out), (bP m.out), (bP q.out), (bP l.out), (bW)⟩)
      skip
      obtain ⟨ax, a6⟩ : ∃ n_, Zac (n_ = w85.heap.size) := ⟨_, ⟨rfl⟩⟩
      refine Kd.S_lit1_step (Kd.slice 2 (Kd.int .i64)) w.heap.size 22 ?hg (N := 107) ?hd (xs := ([ad] : List (List Int))) (inner := [.slice bk ad.length bl]) (ok := (fun k_ => (some k_ = (.slice bk ad.length bl : Value).ownBlock ∨ ax ≤ k_) ∧ some k_ ≠ (.slice (some A) u.length W : Value).ownBlock ∧ some k_ ≠ (.slice (some ae) r.length au : Value).ownBlock ∧ some k_ ≠ (.slice af s.length ag : Value).ownBlock)) (okp := (fun k_ => (some k_ = (.slice bk ad.length bl : Value).ownBlock ∨ ax ≤ k_) ∧ some k_ ≠ (.slice (some A) u.length W : Value).ownBlock ∧ some k_ ≠ (.slice (some ae) r.length au : Value).ownBlock ∧ some k_ ≠ (.slice af s.length ag : Value).ownBlock)) ?hr ?hp (fun _ hk => hk) ((show ∀ k_, w85.heap.size ≤ k_ → (fun k_ => (some k_ = (.slice bk ad.length bl : Value).ownBlock ∨ ax ≤ k_) ∧ some k_ ≠ (.slice (some A) u.length W : Value).ownBlock ∧ some k_ ≠ (.slice (some ae) r.length au : Value).ownBlock ∧ some k_ ≠ (.slice af s.length ag : Value).ownBlock) k_ from fun k_ hk => ⟨.inr (Nat.le_trans (Nat.le_of_eq a6.out) hk), ⟨zT (zI (rP E.out)) k_ hk, zT (zI (rP z.out)) k_ hk, zT (yS (sP c.out)) k_ hk⟩⟩) _ (Nat.le_refl _)) (Below.refl _ _) ((Zaj (bW))) (by simp) ?_; (case hd => rfl); (case hg => rfl); (case hr => first | (go_simp; done) | (go_simp; rfl)); (case hp => exact ⟨_, rfl, rfl, Kd.M_row (by (with_reducible repeat (first | apply zC | apply zD | apply zA)); exact (zB (ok' := (fun k_ => (some k_ = (.slice bk ad.length bl : Value).ownBlock ∨ ax ≤ k_) ∧ some k_ ≠ (.slice (some A) u.length W : Value).ownBlock ∧ some k_ ≠ (.slice (some ae) r.length au : Value).ownBlock ∧ some k_ ≠ (.slice af s.length ag : Value).ownBlock)) (Kd.R_tight2 rfl (yG (U.out) (yH c.out) (by decide))) (fun k_ hk => ⟨.inl hk.1, ⟨hk.2.1.1, ⟨hk.2.1.2, hk.2.2⟩⟩⟩)))⟩)
      intro fd iY cj hb hg_ hnew_
      have aE := (hb.cell (World.block_lt_of_cell? _ _ (hHeld.2.2.2.2.2.2.2.2.1))).trans (hHeld.2.2.2.2.2.2.2.2.1)
      have hown_ := own_new hnew_; clear hg_ hnew_
      (first | rw [← cc.out] at cj | (simp only [Int.reduceToNat] at cj; rw [← cc.out] at cj))
      replace E := mA (zK (rP E.out) hb)
      replace z := mA (zK (rP z.out) hb)
      replace d := mA (zK (rP d.out) hb)
      replace c := mA (Kd.S_elderI (sP c.out) hown_ hb a6)
      have aK := mA (cj)
      replace a := mA (blkB a.out hb)
      replace m := mA (blkB m.out hb)
      replace q := mA (blkB q.out hb)
      replace l := mA (blkB l.out hb)
      replace HB := mA (Zaf (bW) hb)
      clear U hb cj hown_ a6
      obtain ⟨g1, g2, fe⟩ := yE aK.out
      (first | subst fe | (injection fe with al aG am; have aH := al.symm; have aI := am.symm; clear al aG am; subst aH; subst aI))
      refine hK.out _ _ ⟨bc l 0, bc l 1, bc l 2, bc l 3, bc a 0, bc a 1, bc a 2, bc a 3, aE, (cB HB ay :)⟩ (fun hHeld => ?_)
      clear hK K
      refine putS 107 ?_
      refine two_ (i := 4) (j := 15) (Ni := some 108) (Nj := some 119) #[true, true, true, true, true, true, true, true, true, true, true, true, true, true, true, false, false, false, false, false, false] #[true, true, true, true, false, true, true, true, true, true, true, true, true, true, true, true, false, false, false, false, false] rfl rfl rfl rfl (two_of HT_.out (by kernel_rfl)) (by decide) (by decide) (fun K hK => ?_) (fun K hK => ?_)
      ·skip
       refine Kd.S_append_rows_step (Kd.slice 2 (Kd.int .i64)) (w0 := w) w.heap.size (by rfl) (.tmp 105) (.tmp 107) 37 22 (.slice none 0 0) 24 rfl Tryd.underlying37 info22 rfl (by decide) (by omega) (.slice af s.length ag) s bs _ _ _ (fun k_ => some k_ ≠ (.slice (some A) u.length W : Value).ownBlock ∧ some k_ ≠ (.slice (some ae) r.length au : Value).ownBlock) (fun k_ => (some k_ = (.slice bk ad.length bl : Value).ownBlock ∨ ax ≤ k_) ∧ (((fun k_ => some k_ ≠ (.slice (some A) u.length W : Value).ownBlock ∧ some k_ ≠ (.slice (some ae) r.length au : Value).ownBlock)) k_ ∧ some k_ ≠ (.slice af s.length ag : Value).ownBlock)) rfl rfl ?aO ?aR (fun _ hk => hk.2) ?aF ?aB ?aS ?aL ?_
       (case aR => exact (by (with_reducible repeat (first | apply zL | apply zM | apply zH)); exact zG (ok' := (fun k_ => (some k_ = (.slice bk ad.length bl : Value).ownBlock ∨ ax ≤ k_) ∧ (((fun k_ => some k_ ≠ (.slice (some A) u.length W : Value).ownBlock ∧ some k_ ≠ (.slice (some ae) r.length au : Value).ownBlock)) k_ ∧ some k_ ≠ (.slice af s.length ag : Value).ownBlock))) (aK.out) (fun k_ hk => ⟨hk.1, ⟨⟨hk.2.1, hk.2.2.1⟩, hk.2.2.2⟩⟩)))
       (case aB => exact (bW))
       (case aF => exact (fun k_ hk => ⟨zT (zI (rP E.out)) k_ hk, zT (zI (rP z.out)) k_ hk⟩))
       (case aO => exact (by (with_reducible repeat (first | apply zL | apply zM | apply zH)); exact zG (c.out) (fun k_ hk => ⟨⟨hk.1.1.1, hk.1.1.2.1⟩, fun e_ => e_.1.elim (fun h_ => hk.1.1.2.2 h_) (fun h_ => ltge (hk.2) h_)⟩)))
       (case aS => exact (Zaj (bW)))
       (case aL => have := cZ.out; omega)
       intro bI fO ho hb hg hat
       have aE := Zc3 hg (hHeld.2.2.2.2.2.2.2.2.1) (by first | (rw [Zbb]; exact (fun e_ => (((Kd.S_R c.out).1 _ e_.symm).1.1.2.1) rfl)) | (show some (Addr.add _ _).block ≠ _; rw [Zbb]; exact (fun e_ => (((Kd.S_R c.out).1 _ e_.symm).1.1.2.1) rfl)) | exact (fun e_ => (((Kd.S_R c.out).1 _ e_.symm).1.1.2.1) rfl))
       rw [← cd.out] at ho
       replace E := mA (yB (rP E.out) (yH (sP c.out)) (by decide) hg)
       replace z := mA (yB (rP z.out) (yH (sP c.out)) (by decide) hg)
       replace d := mA (yB (rP d.out) (yH (sP c.out)) (by decide) hg)
       replace a := mA (Zah (g := G) (o := .cells #[.int .i64 x, .int .i64 D, .slice (some aJ) O.length ab, .slice ah y.length ac] 77 (0, 0)) (bP a.out) hg (yN c.out a.out (by decide)))
       replace m := mA (Zah (g := T) (o := .cells #[.int .i64 0, .int .i64 0, .slice none 0 0, .slice none 0 0] 77 (0, 0)) (bP m.out) hg (yN c.out m.out (by decide)))
       replace q := mA (Zah (g := aa) (o := mobj (Value.int .i64) (Value.int .i64) I) (bP q.out) hg (Kd.S_nem c.out q.out))
       replace l := mA (Zah (g := J) (o := .cells #[.int .i64 x, .int .i64 0, .slice aC B.length aD, .slice af s.length ag] 77 (0, 0)) (bP l.out) hg (yN c.out l.out (by decide)))
       replace HB := mA (hb)
       have aM := mA (ho)
       clear c aK ho hb hg hat
       refine hK.out _ _ ⟨bc l 0, bc l 1, bc l 2, bc l 3, bc a 0, bc a 1, bc a 2, bc a 3, aE, (cB HB ay :)⟩ (fun hHeld => ?_)
       clear hK K
       refine putS 108 ?_
       refine Zas (i := 17) (N := some 121) (Zap HT_.out (by kernel_rfl)) ?_
       refine one_ (i := 15) (N := some 119) #[true, true, true, true, true, true, true, true, true, true, true, true, true, true, true, true, false, true, false, false, false] rfl rfl (Zbe HT_.out (by kernel_rfl)) (by decide) (fun K hK => ?_)
       refine xA Kd.bool _ 4 ?hg (N := 119) ?hd (xs := ([rdOf false O (rd r v)] : List Bool)) (inner := [.bool (rdOf false O (rd r v))]) (ok := fun _ => True) (okp := fun _ => True) ?hr ?hp (fun _ hk => hk) trivial (Below.refl _ _) (Nat.le_refl _) (by simp) ?_; (case hd => rfl); (case hg => rfl); (case hr => first | (go_simp; done) | (go_simp; rfl)); (case hp => exact (Reps.one (show Kd.M Kd.bool _ _ _ (rdOf false O (rd r v)) [.bool (rdOf false O (rd r v))] from rfl) (Reps.none _ _)))
       intro bu fP b2 hb hg_ hnew_
       have aE := (hb.cell (World.block_lt_of_cell? _ _ (hHeld.2.2.2.2.2.2.2.2.1))).trans (hHeld.2.2.2.2.2.2.2.2.1)
       clear hg_ hnew_
       (first | rw [← bw.out] at b2 | (simp only [Int.reduceToNat] at b2; rw [← bw.out] at b2))
       replace E := mA (zK (rP E.out) hb)
       replace z := mA (zK (rP z.out) hb)
       replace aM := mA (zW (sP aM.out) hb)
       have av := mA (zS (yC b2 (zI (rP d.out))) (Zaj (bW)))
       replace d := mA (zZ (rP d.out) (zU b2) hb)
       replace a := mA (blkB a.out hb)
       replace m := mA (blkB m.out hb)
       replace q := mA (blkB q.out hb)
       replace l := mA (blkB l.out hb)
       replace HB := mA (Zaf (bW) hb)
       clear hb b2
       refine hK.out _ _ ⟨bc l 0, bc l 1, bc l 2, bc l 3, bc a 0, bc a 1, bc a 2, bc a 3, aE, (cB HB ay :)⟩ (fun hHeld => ?_)
       clear hK K
       refine putS 119 ?_
       exact norm_ (by simp only [Zcy, Act.put, List.setIfInBounds_toArray, List.set_cons_zero, List.set_cons_succ]) (hCont (.slice g1 bs.length g2, bI, bu) _ ⟨hHeld, (sP aM.out), (by (with_reducible repeat (first | apply zC | apply zD | apply zA)); exact zB av.out (fun _ hk => hk.2)), (by (with_reducible repeat (first | apply zC | apply zD | apply zA)); exact zB E.out (fun _ hk => hk.1)), (by (with_reducible repeat (first | apply zC | apply zD | apply zA)); exact zB z.out (fun _ hk => hk.1)), (by (with_reducible repeat (first | apply zC | apply zD | apply zA)); exact zB d.out (fun _ hk => hk.2)), (bP a.out), (bP m.out), (bP q.out), (bP l.out), (bW)⟩)
      skip
      refine xA Kd.bool _ 4 ?hg (N := 119) ?hd (xs := ([rdOf false O (rd r v)] : List Bool)) (inner := [.bool (rdOf false O (rd r v))]) (ok := fun _ => True) (okp := fun _ => True) ?hr ?hp (fun _ hk => hk) trivial (Below.refl _ _) (Nat.le_refl _) (by simp) ?_; (case hd => rfl); (case hg => rfl); (case hr => first | (go_simp; done) | (go_simp; rfl)); (case hp => exact (Reps.one (show Kd.M Kd.bool _ _ _ (rdOf false O (rd r v)) [.bool (rdOf false O (rd r v))] from rfl) (Reps.none _ _)))
      intro bu fO a0 hb hg_ hnew_
      have aE := (hb.cell (World.block_lt_of_cell? _ _ (hHeld.2.2.2.2.2.2.2.2.1))).trans (hHeld.2.2.2.2.2.2.2.2.1)
      clear hg_ hnew_
      (first | rw [← bw.out] at a0 | (simp only [Int.reduceToNat] at a0; rw [← bw.out] at a0))
      replace E := mA (zK (rP E.out) hb)
      replace z := mA (zK (rP z.out) hb)
      replace c := mA (zW (sP c.out) hb)
      replace aK := mA (zW (sP aK.out) hb)
      have av := mA (zS (yC a0 (zI (rP d.out))) (Zaj (bW)))
      replace d := mA (zZ (rP d.out) (zU a0) hb)
      replace a := mA (blkB a.out hb)
      replace m := mA (blkB m.out hb)
      replace q := mA (blkB q.out hb)
      replace l := mA (blkB l.out hb)
      replace HB := mA (Zaf (bW) hb)
      clear hb a0
      obtain ⟨dK, dL, ci⟩ := yE aK.out
      (first | subst ci | (injection ci with al aG am; have aH := al.symm; have aI := am.symm; clear al aG am; subst aH; subst aI))
      refine hK.out _ _ ⟨bc l 0, bc l 1, bc l 2, bc l 3, bc a 0, bc a 1, bc a 2, bc a 3, aE, (cB HB ay :)⟩ (fun hHeld => ?_)
      clear hK K
      refine putS 119 ?_
      refine one_ (i := 4) (N := some 108) #[true, true, true, true, true, true, true, true, true, true, true, true, true, true, true, true, false, false, false, false, false] rfl rfl (Zbe HT_.out (by kernel_rfl)) (by decide) (fun K hK => ?_)
      refine Kd.S_append_rows_step (Kd.slice 2 (Kd.int .i64)) (w0 := w) w.heap.size (by rfl) (.tmp 105) (.tmp 107) 37 22 (.slice none 0 0) 24 rfl Tryd.underlying37 info22 rfl (by decide) (by omega) (.slice af s.length ag) s bs _ _ _ (fun k_ => some k_ ≠ (.slice (some A) u.length W : Value).ownBlock ∧ some k_ ≠ (.slice (some ae) r.length au : Value).ownBlock) (fun k_ => (some k_ = (.slice bk ad.length bl : Value).ownBlock ∨ ax ≤ k_) ∧ (((fun k_ => some k_ ≠ (.slice (some A) u.length W : Value).ownBlock ∧ some k_ ≠ (.slice (some ae) r.length au : Value).ownBlock)) k_ ∧ some k_ ≠ (.slice af s.length ag : Value).ownBlock)) rfl rfl ?aO ?aR (fun _ hk => hk.2) ?aF ?aB ?aS ?aL ?_
      (case aR => exact (by (with_reducible repeat (first | apply zL | apply zM | apply zH)); exact zG (ok' := (fun k_ => (some k_ = (.slice bk ad.length bl : Value).ownBlock ∨ ax ≤ k_) ∧ (((fun k_ => some k_ ≠ (.slice (some A) u.length W : Value).ownBlock ∧ some k_ ≠ (.slice (some ae) r.length au : Value).ownBlock)) k_ ∧ some k_ ≠ (.slice af s.length ag : Value).ownBlock))) (aK.out) (fun k_ hk => ⟨hk.1, ⟨⟨hk.2.1, hk.2.2.1⟩, hk.2.2.2⟩⟩)))
      (case aB => exact (bW))
      (case aF => exact (fun k_ hk => ⟨zT (zI (rP E.out)) k_ hk, zT (zI (rP z.out)) k_ hk⟩))
      (case aO => exact (by (with_reducible repeat (first | apply zL | apply zM | apply zH)); exact zG (c.out) (fun k_ hk => ⟨⟨hk.1.1.1, hk.1.1.2.1⟩, fun e_ => e_.1.elim (fun h_ => hk.1.1.2.2 h_) (fun h_ => ltge (hk.2) h_)⟩)))
      (case aS => exact (Zaj (bW)))
      (case aL => have := cZ.out; omega)
      intro bI fP ho hb hg hat
      have aE := Zc3 hg (hHeld.2.2.2.2.2.2.2.2.1) (by first | (rw [Zbb]; exact (fun e_ => (((Kd.S_R c.out).1 _ e_.symm).1.1.2.1) rfl)) | (show some (Addr.add _ _).block ≠ _; rw [Zbb]; exact (fun e_ => (((Kd.S_R c.out).1 _ e_.symm).1.1.2.1) rfl)) | exact (fun e_ => (((Kd.S_R c.out).1 _ e_.symm).1.1.2.1) rfl))
      rw [← cd.out] at ho
      replace E := mA (yB (rP E.out) (yH (sP c.out)) (by decide) hg)
      replace z := mA (yB (rP z.out) (yH (sP c.out)) (by decide) hg)
      replace d := mA (yB (rP d.out) (yH (sP c.out)) (by decide) hg)
      replace a := mA (Zah (g := G) (o := .cells #[.int .i64 x, .int .i64 D, .slice (some aJ) O.length ab, .slice ah y.length ac] 77 (0, 0)) (bP a.out) hg (yN c.out a.out (by decide)))
      replace m := mA (Zah (g := T) (o := .cells #[.int .i64 0, .int .i64 0, .slice none 0 0, .slice none 0 0] 77 (0, 0)) (bP m.out) hg (yN c.out m.out (by decide)))
      replace q := mA (Zah (g := aa) (o := mobj (Value.int .i64) (Value.int .i64) I) (bP q.out) hg (Kd.S_nem c.out q.out))
      replace l := mA (Zah (g := J) (o := .cells #[.int .i64 x, .int .i64 0, .slice aC B.length aD, .slice af s.length ag] 77 (0, 0)) (bP l.out) hg (yN c.out l.out (by decide)))
      replace av := mA (yB (rP av.out) (yH (sP c.out)) (by decide) hg)
      replace HB := mA (hb)
      have aM := mA (ho)
      clear c aK ho hb hg hat
      refine hK.out _ _ ⟨bc l 0, bc l 1, bc l 2, bc l 3, bc a 0, bc a 1, bc a 2, bc a 3, aE, (cB HB ay :)⟩ (fun hHeld => ?_)
      clear hK K
      refine putS 108 ?_
      refine Zas (i := 17) (N := some 121) (Zap HT_.out (by kernel_rfl)) ?_
      exact norm_ (by simp only [Zcy, Act.put, List.setIfInBounds_toArray, List.set_cons_zero, List.set_cons_succ]) (hCont (.slice dK bs.length dL, bI, bu) _ ⟨hHeld, (sP aM.out), (by (with_reducible repeat (first | apply zC | apply zD | apply zA)); exact zB av.out (fun _ hk => hk.2)), (by (with_reducible repeat (first | apply zC | apply zD | apply zA)); exact zB E.out (fun _ hk => hk.1)), (by (with_reducible repeat (first | apply zC | apply zD | apply zA)); exact zB z.out (fun _ hk => hk.1)), (by (with_reducible repeat (first | apply zC | apply zD | apply zA)); exact zB d.out (fun _ hk => hk.2)), (bP a.out), (bP m.out), (bP q.out), (bP l.out), (bW)⟩)
     rintro ⟨fd, bI, bu⟩ w94 ⟨hS_, c1, da, db, dc, dd, de, df, dg, dh, di⟩
     have dj : Zac (Kd.S (Kd.slice 2 (Kd.int .i64)) 22 w94 w.heap.size (fun k_ => some k_ ≠ (.slice (some A) u.length W : Value).ownBlock ∧ some k_ ≠ (.slice (some ae) r.length au : Value).ownBlock) bI bj) := ⟨c1⟩
     have dk : Zac (Kd.R Kd.bool 4 w94 w.heap.size (fun k_ => some k_ ≠ (.slice aC B.length aD : Value).ownBlock) bu bZ) := ⟨da⟩
     have dl : Zac (Kd.R (Kd.int .i64) 2 w94 w.heap.size (fun k_ => some k_ ≠ (.slice (some ae) r.length au : Value).ownBlock) (.slice (some A) u.length W) u) := ⟨db⟩
     have dm : Zac (Kd.R (Kd.int .i64) 2 w94 w.heap.size (fun k_ => some k_ ≠ (.slice (some A) u.length W : Value).ownBlock) (.slice (some ae) r.length au) r) := ⟨dc⟩
     have dn : Zac (Kd.R Kd.bool 4 w94 w.heap.size (fun k_ => some k_ ≠ (bu : Value).ownBlock) (.slice aC B.length aD) B) := ⟨dd⟩
     have dp : Zac (w94.heap[G]? = some (.cells #[.int .i64 x, .int .i64 D, .slice (some aJ) O.length ab, .slice ah y.length ac] 77 (0, 0))) := ⟨de⟩
     have dq : Zac (w94.heap[T]? = some (.cells #[.int .i64 0, .int .i64 0, .slice none 0 0, .slice none 0 0] 77 (0, 0))) := ⟨df⟩
     have dr : Zac (w94.heap[aa]? = some (mobj (Value.int .i64) (Value.int .i64) I)) := ⟨dg⟩
     have dt : Zac (w94.heap[J]? = some (.cells #[.int .i64 x, .int .i64 0, .slice aC B.length aD, .slice af s.length ag] 77 (0, 0))) := ⟨dh⟩
     have du : Zac (Below w.heap.size w w94) := ⟨di⟩
     clear E z U d c a m q l HB c1 da db dc dd de df dg dh di; have aM := dj; have av := dk; have E := dl; have z := dm; have d := dn; have a := dp; have m := dq; have q := dr; have l := dt; have HB := du; clear dj dk dl dm dn dp dq dr dt du
     have hHeld : w94.cell? ⟨J, 0, none⟩ = some (.int .i64 x) ∧ w94.cell? ⟨J, 1, none⟩ = some (.int .i64 0) ∧ w94.cell? ⟨J, 2, none⟩ = some (.slice aC B.length aD) ∧ w94.cell? ⟨J, 3, none⟩ = some (.slice af s.length ag) ∧ w94.cell? ⟨G, 0, none⟩ = some (.int .i64 x) ∧ w94.cell? ⟨G, 1, none⟩ = some (.int .i64 D) ∧ w94.cell? ⟨G, 2, none⟩ = some (.slice (some aJ) O.length ab) ∧ w94.cell? ⟨G, 3, none⟩ = some (.slice ah y.length ac) ∧ w94.cell? (ae.add (v).toNat) = some (.int .i64 (rd r v)) ∧ w94.cell? (aJ.add ((rd r v)).toNat) = some (.bool (rdOf false O (rd r v))) := hS_
     obtain ⟨g3, g4, ff⟩ := zP av.out
     (first | subst ff | (injection ff with al aG am; have aH := al.symm; have aI := am.symm; clear al aG am; subst aH; subst aI))
     refine norm_ (a' := ?_) ?_ ?_
     rotate_left
     ·simp only [Zcy, Act.put, List.setIfInBounds_toArray, List.set_cons_zero, List.set_cons_succ]
      rfl
     refine one_ (i := 16) (N := some 120) #[true, true, true, true, true, true, true, true, true, true, true, true, true, true, true, true, true, true, false, false, false] rfl rfl (Zbe HT_.out (by kernel_rfl)) (by decide) (fun K hK => ?_)
     refine xK Kd.bool (w0 := w) w.heap.size (by rfl) (.tmp 110) (.tmp 119) 64 4 (.bool false) 1 rfl Tryd.underlying64 info4 rfl (by decide) (by omega) (.slice aC B.length aD) B bZ _ _ _ (fun k_ => some k_ ≠ (.slice g3 bZ.length g4 : Value).ownBlock) (fun _ => False) rfl rfl ?aO ?aR (fun _ _ h => h) (fun _ h => h.elim) ?aF ?aB ?aS ?aL ?_
     (case aR => exact cP ((zJ av.out).2.2))
     (case aB => exact (bW))
     (case aF => exact (fun k_ hk => zT (zI (rP av.out)) k_ hk))
     (case aO => exact (rP d.out))
     (case aS => exact (Zaj (bW)))
     (case aL => have := fJ.out; omega)
     intro iK fQ ho hb hg hat
     have aE := Zc3 hg (hHeld.2.2.2.2.2.2.2.2.1) (by first | (rw [Zbb]; exact (fun e_ => ((yG d.out (zY z.out) (by decide)).1 _ e_.symm).2 rfl)) | (show some (Addr.add _ _).block ≠ _; rw [Zbb]; exact (fun e_ => ((yG d.out (zY z.out) (by decide)).1 _ e_.symm).2 rfl)) | exact (fun e_ => ((yG d.out (zY z.out) (by decide)).1 _ e_.symm).2 rfl))
     rw [← ec.out] at ho
     replace E := mA (yB (rP E.out) (zY (rP d.out)) (by decide) hg)
     replace z := mA (yB (rP z.out) (zY (rP d.out)) (by decide) hg)
     replace a := mA (Zah (g := G) (o := .cells #[.int .i64 x, .int .i64 D, .slice (some aJ) O.length ab, .slice ah y.length ac] 77 (0, 0)) (bP a.out) hg (zN d.out a.out (by decide)))
     replace m := mA (Zah (g := T) (o := .cells #[.int .i64 0, .int .i64 0, .slice none 0 0, .slice none 0 0] 77 (0, 0)) (bP m.out) hg (zN d.out m.out (by decide)))
     replace q := mA (Zah (g := aa) (o := mobj (Value.int .i64) (Value.int .i64) I) (bP q.out) hg (Kd.R_nem d.out q.out))
     replace l := mA (Zah (g := J) (o := .cells #[.int .i64 x, .int .i64 0, .slice aC B.length aD, .slice af s.length ag] 77 (0, 0)) (bP l.out) hg (zN d.out l.out (by decide)))
     replace aM := mA (Kd.S_over' (sP aM.out) (zY (rP d.out)) (by decide) hg)
     replace av := mA (zR (ok := (fun _ => True)) (by (with_reducible repeat (first | apply zC | apply zD | apply zA)); exact zB av.out (fun _ hk => ⟨trivial, hk⟩)) hg hat)
     replace HB := mA (hb)
     have ed := mA (ho)
     clear d ho hb hg hat
     obtain ⟨b3, b4, fg⟩ := yE aM.out
     (first | subst fg | (injection fg with al aG am; have aH := al.symm; have aI := am.symm; clear al aG am; subst aH; subst aI))
     obtain ⟨ck, cm, fh⟩ := zP ed.out
     (first | subst fh | (injection fh with al aG am; have aH := al.symm; have aI := am.symm; clear al aG am; subst aH; subst aI))
     refine hK.out _ _ ⟨bc l 0, bc l 1, bc l 2, bc l 3, bc a 0, bc a 1, bc a 2, bc a 3, aE, (cB HB ay :)⟩ (fun hHeld => ?_)
     clear hK K
     refine putS 120 ?_
     refine last_ (i := 18) (N := none) #[true, true, true, true, true, true, true, true, true, true, true, true, true, true, true, true, true, true, true, false, false] rfl rfl (Zbe HT_.out (by kernel_rfl)) (by decide) (fun K hK => ?_)
     have iL : fQ.cell? ⟨J, 3, none⟩ = some (.slice af s.length ag) := bc l 3
     have ij := Zae l.out 3
     have hh := aj.out
     have hj := ao.out
     have hl := ap.out
     have hm := aW.out
     have hn := a7.out
     have hq := aX.out
     refine skip_ (w1 := ?_) (by rfl) rfl ?_ ?_
     rotate_left
     ·go_simp
      rfl
     refine hK.out _ _ ?_
     clear hK K
     refine Zas (i := 19) (N := some 122) (Zap HT_.out (by kernel_rfl)) ?_
     refine last_ (i := 20) (N := none) #[true, true, true, true, true, true, true, true, true, true, true, true, true, true, true, true, true, true, true, true, true] rfl rfl (Zbe HT_.out (by kernel_rfl)) (by decide) (fun K hK => ?_)
     have ik : fQ.cell? ⟨J, 2, none⟩ = some (.slice aC B.length aD) := bc l 2
     have hM := Zae l.out 2
     have g5 := aj.out
     have g6 := ao.out
     have g7 := ap.out
     have g8 := aW.out
     have g9 := a7.out
     have ha := aX.out
     refine skip_ (w1 := ?_) (by rfl) rfl ?_ ?_
     rotate_left
     ·go_simp
      rfl
     refine hK.out _ _ ?_
     clear hK K
     refine done_ (Zcs HT_.out (by kernel_rfl)) ?_
     try go_wp2
     go_roundg k2
     case measure => have := bx.out; have := bz.out; omega
     case rel => exact ⟨(r), (wrap64 (v + 1)), (I), (b0), (bj), (.slice ck b0.length cm), (.slice b3 bj.length b4), (eW), H', ⟨by have := bx.out; have := bz.out; omega⟩, ⟨by (with_reducible repeat (first | apply zC | apply zD | apply zA)); exact zB (zF (p := ⟨J, 2, none⟩) (zF (p := ⟨J, 3, none⟩) (zV E.out l.out (by decide)) (fun _ hk => hk.2) (.slice b3 bj.length b4)) (fun _ hk => hk.2) (.slice ck b0.length cm)) (fun _ hk => hk.1)⟩, ⟨by (with_reducible repeat (first | apply zC | apply zD | apply zA)); exact zB (zF (p := ⟨J, 2, none⟩) (zF (p := ⟨J, 3, none⟩) (zV z.out l.out (by decide)) (fun _ hk => hk.2) (.slice b3 bj.length b4)) (fun _ hk => hk.2) (.slice ck b0.length cm)) (fun _ hk => hk.1)⟩, ⟨by (with_reducible repeat (first | apply zC | apply zD | apply zA)); exact zB (zF (p := ⟨J, 2, none⟩) (zF (p := ⟨J, 3, none⟩) (zV ed.out l.out (by decide)) (fun _ hk => hk.2) (.slice b3 bj.length b4)) (fun _ hk => hk.2) (.slice ck b0.length cm)) (fun _ hk => trivial)⟩, ⟨by (with_reducible repeat (first | apply zL | apply zM | apply zH)); exact zG (zE (p := ⟨J, 2, none⟩) (zE (p := ⟨J, 3, none⟩) (zX aM.out l.out (by decide)) (fun _ hk => hk.2) (.slice b3 bj.length b4)) (fun _ hk => hk.2) (.slice ck b0.length cm)) (fun _ hk => ⟨hk.1.1, hk.1.2⟩)⟩, ⟨by (with_reducible repeat (first | refine Zad ?_ _ | refine Zaa ?_ | refine Zab ?_ _)); refine Zbt ?_ aj.out _; (with_reducible repeat (first | refine Zad ?_ _ | refine Zaa ?_ | refine Zab ?_ _)); refine Zbt ?_ aj.out _; exact bP a.out⟩, ⟨by (with_reducible repeat (first | refine Zad ?_ _ | refine Zaa ?_ | refine Zab ?_ _)); refine Zbt ?_ ao.out _; (with_reducible repeat (first | refine Zad ?_ _ | refine Zaa ?_ | refine Zab ?_ _)); refine Zbt ?_ ao.out _; exact bP m.out⟩, ⟨by (with_reducible repeat (first | refine Zad ?_ _ | refine Zaa ?_ | refine Zab ?_ _)); refine Zbt ?_ ap.out _; (with_reducible repeat (first | refine Zad ?_ _ | refine Zaa ?_ | refine Zab ?_ _)); refine Zbt ?_ ap.out _; exact bP q.out⟩, ⟨by (with_reducible repeat (first | refine Zad ?_ _ | refine Zaa ?_ | refine Zab ?_ _)); refine Zau (cs := #[.int .i64 x, .int .i64 0, .slice aC B.length aD, .slice b3 bj.length b4]) ?_ 2 _ rfl; (with_reducible repeat (first | refine Zad ?_ _ | refine Zaa ?_ | refine Zab ?_ _)); refine Zau (cs := #[.int .i64 x, .int .i64 0, .slice aC B.length aD, .slice af s.length ag]) ?_ 3 _ rfl; exact bP l.out⟩, ⟨bW⟩⟩
end Go.Proofs.YtjdkedmdeajmgaaDoor.P
end M0
