import Derived.Test.YtgindgodfcfgkaaCFnExactResidualOf4
import Derived.Test.YtgindgodfcfgkaaCFnExactResidualOf6
section M0
namespace Go.Proofs.Ytgindgodfcfgkaa.P
open Go.RowKit Go.Proofs.Ytgindgodfcfgkaa.Sh Go.Proofs.YtgindgodfcfgkaaW.PrintWords Go.Proofs.YtgindgodfcfgkaaW.PrintLast Go.Proofs.YtgindgodfcfgkaaW.PrintMore
open Kd
attribute [local go_sem] Zcc Zcd Zck Zcl Zb2 Zb3 Zce Zcb   -- for this text's walks alone
set_option linter.unusedVariables false
set_option linter.unusedSimpArgs false
mutual
def Zaj.l0 : Nat → List Int → List Int → Int → Int → Int → List Bool → List (List Int) → List (Int × Int) → Int → Int → List Bool → List (List Int) → Option (Int × Int × List Bool × (List (List Int)))
 | 0, _, _, _, _, _, _, _, _, _, _, _, _ => none
 | k + 1, x4, x6, x8, a, g, h, i, j, b, c, d, e => if x8 < (x6.length : Int) then (Zaj.l1 k x4 x6 x8 (([] : List Int)) a 0 a g h i j b c d e) else (some (b, c, d, e))
def Zaj.l1 : Nat → List Int → List Int → Int → List Int → Int → Int → Int → Int → List Bool → List (List Int) → List (Int × Int) → Int → Int → List Bool → List (List Int) → Option (Int × Int × List Bool × (List (List Int)))
 | 0, _, _, _, _, _, _, _, _, _, _, _, _, _, _, _ => none
 | k + 1, x4, x6, x8, x9, m, c, g, h, b, a, i, j, l, d, e => if c < m then (if 0 ≤ x8 then (if x8 < (x6.length : Int) then (if 0 ≤ (rd x6 x8) then (if (rd x6 x8) < (a.length : Int) then (if 0 ≤ c then (if c < ((Zah a (rd x6 x8)).length : Int) then (if (rd (Zah a (rd x6 x8)) c) < 0 then (Zaj.j2 k x4 x6 x8 x9 (rd (Zah a (rd x6 x8)) c) m c true g h b a i j l d e) else (if 0 ≤ (rd (Zah a (rd x6 x8)) c) then (if (rd (Zah a (rd x6 x8)) c) < (x4.length : Int) then (Zaj.j2 k x4 x6 x8 x9 (rd (Zah a (rd x6 x8)) c) m c (decide ((rd x4 (rd (Zah a (rd x6 x8)) c)) < 0)) g h b a i j l d e) else (none)) else (none))) else (none)) else (none)) else (none)) else (none)) else (none)) else (none)) else ((some (([x9] : List (List Int)) : List (List Int))).bind fun n => (if e.length + n.length < 5864062014805 then (if 0 ≤ x8 then (if x8 < (x6.length : Int) then (if 0 ≤ (rd x6 x8) then (if (rd x6 x8) < (b.length : Int) then ((some (([rdOf false b (rd x6 x8)] : List Bool) : List Bool)).bind fun o => (if d.length + o.length < 140737488355328 then (Zaj.l0 k x4 x6 (wrap64 (x8 + 1)) g h b a i j l (d ++ o) (e ++ n)) else (none))) else (none)) else (none)) else (none)) else (none)) else (none)))
def Zaj.j2 : Nat → List Int → List Int → Int → List Int → Int → Int → Int → Bool → Int → Int → List Bool → List (List Int) → List (Int × Int) → Int → Int → List Bool → List (List Int) → Option (Int × Int × List Bool × (List (List Int)))
 | 0, _, _, _, _, _, _, _, _, _, _, _, _, _, _, _, _, _ => none
 | k + 1, x4, x6, x8, x9, l, m, n, s, b, c, d, e, a, g, h, i, j => if s = true then ((some (([(-1)] : List Int) : List Int)).bind fun o => (if x9.length + o.length < 17592186044416 then (Zaj.l1 k x4 x6 x8 (x9 ++ o) m (wrap64 (n + 1)) b c d e a g h i j) else (none))) else (if 0 ≤ l then (if l < (x4.length : Int) then (if (mhas a (rd x4 l) = true) then ((some (([mget 0 a (rd x4 l)] : List Int) : List Int)).bind fun p => (if x9.length + p.length < 17592186044416 then (Zaj.l1 k x4 x6 x8 (x9 ++ p) m (wrap64 (n + 1)) b c d e a g h i j) else (none))) else ((some (([l] : List Int) : List Int)).bind fun q => (if x6.length + q.length < 17592186044416 then ((some (([(x6.length : Int)] : List Int) : List Int)).bind fun r => (if x9.length + r.length < 17592186044416 then (Zaj.l1 k x4 (x6 ++ q) x8 (x9 ++ r) m (wrap64 (n + 1)) b c d e (mset a (rd x4 l) (x6.length : Int)) g h i j) else (none))) else (none)))) else (none)) else (none))
end
def Zaj.f (k : Nat) (c : Int) (a : Int) (d : List Bool) (e : List (List Int)) : Option (Int × Int × List Bool × (List (List Int))) := (Zai.f k c a d e).bind fun g => (if 0 ≤ a then (if a < (g.length : Int) then (if rdOf false g a = true then ((Zal.f k c a d e g).bind fun h => (if a < (h.length : Int) then (Zaj.l0 k h (([a] : List Int)) 0 c a d e (mset ([] : List (Int × Int)) (rd h a) 0) c 0 ([] : List Bool) ([] : List (List Int))) else (none))) else ((Zcy.f c).bind fun b => (some (b.1, b.2.1, b.2.2.1, b.2.2.2)))) else (none)) else (none))
def Zaj.T5 : Bool × List (List Nat × List Nat) := (true, [([], []), ([], []), ([], []), ([2], [2]), ([1, 3], [1, 3]), ([4], [4]), ([0, 5], [0, 5]), ([0, 1, 2, 3, 4, 5, 6], [0]), ([], []), ([8], [8]), ([9], [9]), ([7, 0, 1, 2, 3, 4, 5, 6, 7], [7]), ([10, 11, 0, 1, 2, 3, 4, 5, 6, 7, 8, 9, 10, 11], [10])])
def Zaj.B5 : List Nat := [0, 0, 0, 4, 14, 30, 63, 127, 0, 256, 768, 255, 4095]
theorem Zaj.tab5 : rtab .any (opsOf Try.f58 5) = Zaj.T5 := by kernel_rfl
theorem Zaj.bits5 : Zda Zaj.T5.2 Zaj.B5 = true := by kernel_rfl
def Zaj.T14 : Bool × List (List Nat × List Nat) := (true, [([], []), ([0], [0]), ([], []), ([], []), ([2, 3], [2, 3]), ([4], [4]), ([1, 5], [1, 5]), ([6], [6]), ([], []), ([7, 8], [7, 8]), ([9], [9]), ([10, 0, 1, 2, 3, 4, 5, 6, 7, 8, 9, 10], [10])])
def Zaj.B14 : List Nat := [0, 1, 0, 0, 12, 28, 63, 127, 0, 511, 1023, 2047]
theorem Zaj.tab14 : rtab .any (opsOf Try.f58 14) = Zaj.T14 := by kernel_rfl
theorem Zaj.bits14 : Zda Zaj.T14.2 Zaj.B14 = true := by kernel_rfl
def Zaj.T24 : Bool × List (List Nat × List Nat) := (true, [([], []), ([0], [0]), ([], []), ([2], [2]), ([1, 3], [1, 3]), ([], []), ([5], [5]), ([], []), ([7], [7]), ([], []), ([], []), ([9, 10], [9, 10]), ([11], [11]), ([8, 12], [8, 12]), ([13], [13]), ([14], [14]), ([6, 15, 4], [6, 15]), ([0, 1, 2, 3, 4, 5, 6], []), ([17, 4, 16, 0, 1, 2, 3, 4, 5, 6], [4, 17]), ([0, 1, 2, 3, 4, 5, 6, 7, 8, 9, 10, 11, 12, 13, 14, 15, 16, 17, 18], []), ([19, 16, 18, 0, 1, 2, 3, 4, 5, 6, 7, 8, 9, 10, 11, 12, 13, 14, 15, 16, 17, 18], [16, 19])])
def Zaj.B24 : List Nat := [0, 1, 0, 4, 15, 0, 32, 0, 128, 0, 0, 1536, 3584, 8064, 16256, 32640, 65535, 127, 262143, 524287, 1048575]
theorem Zaj.tab24 : rtab .any (opsOf Try.f58 24) = Zaj.T24 := by kernel_rfl
theorem Zaj.bits24 : Zda Zaj.T24.2 Zaj.B24 = true := by kernel_rfl
set_option maxHeartbeats 8000000 in
set_option maxRecDepth 100000 in
theorem Zaj.calls (k : Nat) (y : Int) (z : Int) (ak : Option Addr) (ab : Nat) (O : List Bool) (ah : Option Addr) (ac : Nat) (x : List (List Int)) (r1 : Int) (r2 : Int) (r3 : List Bool) (r4 : List (List Int)) (w : World) (eP : Kd.C Kd.bool w ak O.length O) (eQ : O.length ≤ ab) (eR : Kd.C (Kd.slice 2 (Kd.int .i64)) w ah x.length x) (eS : x.length ≤ ac) (h : Zaj.f k y z O x = some (r1, r2, r3, r4)) :
  Calls Try.prog 58 #[.agg #[.int .i64 y, .int .i64 z, .slice ak O.length ab, .slice ah x.length ac]] w fun e w' => ∃ gf gg : Value, e = .returned (.agg #[.int .i64 r1, .int .i64 r2, gf, gg]) ∧ Kd.R Kd.bool 4 w' w.heap.size (fun _ => True) gf r3 ∧ Kd.S (Kd.slice 2 (Kd.int .i64)) 33 w' w.heap.size (fun _ => True) gg r4 ∧ Below w.heap.size w w' := by
 have iL := Try.underlying63
 have cH := mA eP
 have dm := mA eQ
 clear eP eQ
 have cI := mA eR
 have dn := mA eS
 clear eR eS
 have HB := mA (Below.refl w.heap.size w)
 unfold Zaj.f at h
 have H := h
 clear h
 replace H := bE H
 obtain ⟨aZ, gh, H⟩ := H
 have A2 := mA gh
 clear gh
 by_cases c3 : 0 ≤ z; rotate_left
 ·rw [if_neg c3] at H
  exact absurd H (by simp)
 rw [if_pos c3] at H
 have eu := dT c3
 clear c3
 by_cases c4 : z < (aZ.length : Int); rotate_left
 ·rw [if_neg c4] at H
  exact absurd H (by simp)
 rw [if_pos c4] at H
 have ev := dT c4
 clear c4
 obtain ⟨hS, ew⟩ : ∃ b_ : Bool, b_ = (rdOf false aZ z) := ⟨_, rfl⟩
 rw [← ew] at H
 have ey := mA ew
 clear ew
 by_cases c6 : hS = true; rotate_left
 ·replace c6 := Bool.eq_false_iff.mpr c6
  subst c6
  rw [iF] at H
  replace H := bE H
  obtain ⟨⟨bC, bR, cQ, dp⟩, A1110, H⟩ := H
  try dsimp only at H
  have gq := mA A1110
  clear A1110
  simp only [Option.some.injEq, Prod.mk.injEq] at H
  obtain ⟨rfl, rfl, rfl, rfl⟩ := H
  go_enter Try.func58, Try.ntmps58
  go_wp2_with (first | ((with_reducible refine Zap (N := 1) rfl ?_); refine boxS (N := 1) (cs := #[.int .i64 y, .int .i64 z, .slice ak O.length ab, .slice ah x.length ac]) (t := 63) ?_; intro G hg iM hbox hb; have a := mA (hbox); have fE := geW (w := w) hg; have fF := geW (w := w) hg; replace HB := mA (Zaf (bW) hb); clear hb hbox hg) | ((with_reducible refine Zap (N := 2) rfl ?_); refine boxS (N := 2) (cs := #[.int .i64 0, .int .i64 0, .slice none 0 0, .slice none 0 0]) (t := 63) ?_; intro T hg iN hbox hb; have l := mA (hbox); have fG := geW (w := w) hg; have fH := geW (w := w) hg; replace HB := mA (Zaf (bW) hb); have aU := mA (neB hg a); have aV := mA (neC hg a); replace a := mA (blkB a.out hb); clear hb hbox hg; have hT := aU.out; have hU := aV.out; obtain ⟨gr, gs, gu, gv⟩ := Zau a.out; obtain ⟨gw, gx, gy, gz⟩ := frz4 a.out) | ((with_reducible refine Zar (f := 47) rfl ?_); refine Za2 (some 15) Try.func47 #[.agg #[.int .i64 y, .int .i64 z, .slice ak O.length ab, .slice ah x.length ac]] ?_; (with_reducible refine (Zai.calls k y z _ _ O _ _ x aZ _ ?side1 ?side2 ?side3 ?side4 A2.out).mono ?_); (case side1 => exact cP (zL cH.out HB.out)); (case side2 => exact dm.out); (case side3 => exact cP (zL cI.out HB.out)); (case side4 => exact dn.out); rintro e iO ⟨gA, rfl, bp, hb⟩; refine ⟨_, rfl, ?_⟩; have X := mA (zV bp (Zan (bW))); replace a := mA (blkB a.out hb); replace l := mA (blkB l.out hb); replace HB := mA (Zaf (bW) hb); (try clear hb); (try clear hb2); (try clear hk); (try clear hi); (try clear bp); obtain ⟨gB, gC, gD, gE⟩ := Zau a.out; obtain ⟨gF, gG, gH, gI⟩ := frz4 a.out; obtain ⟨ic, ie, fI⟩ := zP X.out; subst fI; have ba : 0 ≤ (z : Int) := ofD; have bb : z < (aZ.length : Int) := ofD; obtain ⟨cJ, ez, a3⟩ := yC (zK X.out).2.2 z ba bb; (try rw [← ey.out] at a3); cases ez; replace ba := eq_true ba; replace bb := eq_true bb) | ((with_reducible refine Zar (f := 53) rfl ?_); refine Za2 (some 24) Try.func53 #[.int .i64 y] ?_; (with_reducible refine (Zcy.calls y bC bR cQ dp _ gq.out).mono ?_); rintro e iP ⟨iQ, iR, rfl, bp, gi, hb⟩; refine ⟨_, rfl, ?_⟩; have eT := mA (zV (yA bp (zN (rP X.out))) (Zan (bW))); replace X := mA (zZ (rP X.out) (zT bp) hb); have eU := mA (yR gi (Zan (bW))); replace a := mA (blkB a.out hb); replace l := mA (blkB l.out hb); replace HB := mA (Zaf (bW) hb); (try clear hb); (try clear hb2); (try clear hk); (try clear hi); (try clear bp); (try clear gi); obtain ⟨gJ, gK, gL, gM⟩ := Zau l.out; obtain ⟨gN, gO, gP, gQ⟩ := frz4 l.out; obtain ⟨cK, cL, fJ⟩ := zP eT.out; subst fJ; obtain ⟨dq, dr, fK⟩ := yD eU.out; subst fK))
  refine bodyPost_ret (results_cell_row rfl _ _ T 63 #[.int .i64 bC, .int .i64 bR, .slice cK cQ.length cL, .slice dq dp.length dr] (0, 0) _ rfl (by (with_reducible repeat (first | refine Zac ?_ _ | refine Zab ?_ | refine Zaa ?_ _)); refine Zao (cs := #[.int .i64 bC, .int .i64 bR, .slice cK cQ.length cL, .slice none 0 0]) ?_ 3 _ rfl; (with_reducible repeat (first | refine Zac ?_ _ | refine Zab ?_ | refine Zaa ?_ _)); refine Zao (cs := #[.int .i64 bC, .int .i64 bR, .slice none 0 0, .slice none 0 0]) ?_ 2 _ rfl; (with_reducible repeat (first | refine Zac ?_ _ | refine Zab ?_ | refine Zaa ?_ _)); refine Zao (cs := #[.int .i64 bC, .int .i64 0, .slice none 0 0, .slice none 0 0]) ?_ 1 _ rfl; (with_reducible repeat (first | refine Zac ?_ _ | refine Zab ?_ | refine Zaa ?_ _)); refine Zao (cs := #[.int .i64 0, .int .i64 0, .slice none 0 0, .slice none 0 0]) ?_ 0 _ rfl; exact bP l.out) Try.underlying63 rfl (by kernel_rfl)) rfl ?_
  exact ⟨_, _, eW, by (with_reducible repeat (first | apply zD | apply zE | apply zA)); exact zC (zH (p := ⟨T, 3, none⟩) (zH (p := ⟨T, 2, none⟩) (zH (p := ⟨T, 1, none⟩) (zH (p := ⟨T, 0, none⟩) (zX eT.out l.out (by decide)) (fun _ hk => hk.2) (.int .i64 bC)) (fun _ hk => hk.2) (.int .i64 bR)) (fun _ hk => hk.2) (.slice cK cQ.length cL)) (fun _ hk => hk.2) (.slice dq dp.length dr)) (fun _ hk => trivial), by (with_reducible repeat (first | apply zI | apply zJ | apply zG)); exact zF (zB (p := ⟨T, 3, none⟩) (zB (p := ⟨T, 2, none⟩) (zB (p := ⟨T, 1, none⟩) (zB (p := ⟨T, 0, none⟩) (zR eU.out l.out (by decide)) (fun _ hk => hk.2) (.int .i64 bC)) (fun _ hk => hk.2) (.int .i64 bR)) (fun _ hk => hk.2) (.slice cK cQ.length cL)) (fun _ hk => hk.2) (.slice dq dp.length dr)) (fun _ hk => trivial), bW⟩
 subst c6
 rw [if_pos rfl] at H
 replace H := bE H
 obtain ⟨u, gj, H⟩ := H
 have A7 := mA gj
 clear gj
 by_cases c8 : z < (u.length : Int); rotate_left
 ·rw [if_neg c8] at H
  exact absurd H (by simp)
 rw [if_pos c8] at H
 have eA := dT c8
 clear c8
 obtain ⟨eB, dt⟩ : ∃ y_ : List Int, y_ = (([z] : List Int)) := ⟨_, rfl⟩
 rw [← dt] at H
 have bw := mA dt
 clear dt
 have H' := mA H
 clear H
 go_enter Try.func58, Try.ntmps58
 try go_wp2_with (first | ((with_reducible refine Zap (N := 1) rfl ?_); refine boxS (N := 1) (cs := #[.int .i64 y, .int .i64 z, .slice ak O.length ab, .slice ah x.length ac]) (t := 63) ?_; intro G hg w9 hbox hb; have a := mA (hbox); have fE := geW (w := w) hg; have fF := geW (w := w) hg; replace HB := mA (Zaf (bW) hb); clear hb hbox hg) | ((with_reducible refine Zap (N := 2) rfl ?_); refine boxS (N := 2) (cs := #[.int .i64 0, .int .i64 0, .slice none 0 0, .slice none 0 0]) (t := 63) ?_; intro T hg i9 hbox hb; have l := mA (hbox); have fG := geW (w := w) hg; have fH := geW (w := w) hg; replace HB := mA (Zaf (bW) hb); have aU := mA (neB hg a); have aV := mA (neC hg a); replace a := mA (blkB a.out hb); clear hb hbox hg; have ig := aU.out; have ih := aV.out; obtain ⟨bS, bT, bU, bV⟩ := Zau a.out; obtain ⟨bX, bY, bZ, b0⟩ := frz4 a.out) | ((with_reducible refine Zar (f := 47) rfl ?_); refine Za2 (some 15) Try.func47 #[.agg #[.int .i64 y, .int .i64 z, .slice ak O.length ab, .slice ah x.length ac]] ?_; (with_reducible refine (Zai.calls k y z _ _ O _ _ x aZ _ ?side1 ?side2 ?side3 ?side4 A2.out).mono ?_); (case side1 => exact cP (zL cH.out HB.out)); (case side2 => exact dm.out); (case side3 => exact cP (zL cI.out HB.out)); (case side4 => exact dn.out); rintro e ja ⟨gA, rfl, bp, hb⟩; refine ⟨_, rfl, ?_⟩; have X := mA (zV bp (Zan (bW))); replace a := mA (blkB a.out hb); replace l := mA (blkB l.out hb); replace HB := mA (Zaf (bW) hb); (try clear hb); (try clear hb2); (try clear hk); (try clear hi); (try clear bp); obtain ⟨b1, b2, b3, b4⟩ := Zau a.out; obtain ⟨b5, b6, b7, b8⟩ := frz4 a.out; obtain ⟨iS, eC, gR⟩ := zP X.out; subst gR; have ba : 0 ≤ (z : Int) := ofD; have bb : z < (aZ.length : Int) := ofD; obtain ⟨cJ, ez, a3⟩ := yC (zK X.out).2.2 z ba bb; (try rw [← ey.out] at a3); cases ez; replace ba := eq_true ba; replace bb := eq_true bb) | ((with_reducible refine Zar (f := 97) rfl ?_); refine Za2 (some 27) Try.func97 #[.agg #[.int .i64 y, .int .i64 z, .slice ak O.length ab, .slice ah x.length ac], .slice (some cJ) aZ.length eC] ?_; (with_reducible refine (Zal.calls k y z _ _ O _ _ x _ _ aZ u _ ?side1 ?side2 ?side3 ?side4 ?side5 ?side6 A7.out).mono ?_); (case side1 => exact cP (zL cH.out HB.out)); (case side2 => exact dm.out); (case side3 => exact cP (zL cI.out HB.out)); (case side4 => exact dn.out); (case side5 => exact cP ((zK X.out).2.2)); (case side6 => exact (zK X.out).2.1); rintro e hV ⟨iT, rfl, bp, hb⟩; refine ⟨_, rfl, ?_⟩; replace X := mA (zM (rP X.out) hb); have Y := mA (zV bp (Zan (bW))); replace a := mA (blkB a.out hb); replace l := mA (blkB l.out hb); replace HB := mA (Zaf (bW) hb); (try clear hb); (try clear hb2); (try clear hk); (try clear hi); (try clear bp)))
 replace X := mA (zA X.out)
 replace Y := mA (zA Y.out)
 replace a := mA (Zab a.out)
 replace l := mA (Zab l.out)
 replace HB := mA (Za3 HB.out)
 obtain ⟨iU, W, fm⟩ := zP Y.out
 (first | subst fm | (injection fm with al aE am; have aG := al.symm; have aH := am.symm; clear al aE am; subst aG; subst aH))
 have b9 : 0 ≤ (z : Int) := ofD
 have ca : z < (u.length : Int) := ofD
 obtain ⟨A, gS, bf⟩ := zO (zK Y.out).2.2 z b9 ca
 cases gS
 replace b9 := eq_true b9
 replace ca := eq_true ca
 refine start_ (n := 13) (S := fun w' => w'.cell? ⟨G, 0, none⟩ = some (.int .i64 y) ∧ w'.cell? ⟨G, 1, none⟩ = some (.int .i64 z) ∧ w'.cell? ⟨G, 2, none⟩ = some (.slice ak O.length ab) ∧ w'.cell? ⟨G, 3, none⟩ = some (.slice ah x.length ac) ∧ w'.cell? (A.add (z).toNat) = some (.int .i64 (rd u z))) (ds := []) #[false, false, false, false, false, false, false, false, false, false, false, false, false] (by kernel_rfl) rfl rfl ⟨bc a 0, bc a 1, bc a 2, bc a 3, bf⟩ (fun hHeld => ?_); refine Zc0 Zaj.tab5 Zaj.bits5 (fun HT_ HW_ => ?_)
 generalize hV.drew = w17 at X Y a l HB bf hHeld ⊢
 refine Zav (i := 1) (N := some 29) (Zaw HT_.out (by kernel_rfl)) ?_
 refine Zav (i := 2) (N := some 30) (Zaw HT_.out (by kernel_rfl)) ?_
 refine Zav (i := 8) (N := some 35) (Zaw HT_.out (by kernel_rfl)) ?_
 refine Zbt (i := 3) (N := some 31) (Zbb HT_.out HW_.out (by kernel_rfl)) hHeld ?_
 refine Zav (i := 4) (N := some 32) (Zaw HT_.out (by kernel_rfl)) ?_
 refine Zbt (i := 5) (N := some 33) (Zbb HT_.out HW_.out (by kernel_rfl)) hHeld ?_
 refine Zbt (i := 9) (N := some 36) (Zbb HT_.out HW_.out (by kernel_rfl)) hHeld ?_
 refine join_ (σ := Nat × Value) 1 #[true, true, true, true, true, true, true, true, true, true, true, true, false] (fun s_ => [(28, .map (some s_.1)), (37, s_.2), (34, .map (some s_.1)), (5, .map (some s_.1))]) (fun s_ w' => (w'.cell? ⟨G, 0, none⟩ = some (.int .i64 y) ∧ w'.cell? ⟨G, 1, none⟩ = some (.int .i64 z) ∧ w'.cell? ⟨G, 2, none⟩ = some (.slice ak O.length ab) ∧ w'.cell? ⟨G, 3, none⟩ = some (.slice ah x.length ac) ∧ w'.cell? (A.add (z).toNat) = some (.int .i64 (rd u z))) ∧ (Kd.R Kd.bool 4 w' w.heap.size (fun _ => True) (.slice (some cJ) aZ.length eC) aZ) ∧ (Kd.R (Kd.int .i64) 2 w' w.heap.size (fun k_ => some k_ ≠ (s_.2 : Value).ownBlock) (.slice (some A) u.length W) u) ∧ (Kd.R (Kd.int .i64) 2 w' w.heap.size (fun k_ => some k_ ≠ (.slice (some A) u.length W : Value).ownBlock) s_.2 eB) ∧ (w'.heap[G]? = some (.cells #[.int .i64 y, .int .i64 z, .slice ak O.length ab, .slice ah x.length ac] 63 (0, 0))) ∧ (w'.heap[T]? = some (.cells #[.int .i64 0, .int .i64 0, .slice none 0 0, .slice none 0 0] 63 (0, 0))) ∧ (w'.heap[s_.1]? = some (mobj (Value.int .i64) (Value.int .i64) (mset ([] : List (Int × Int)) (rd u z) 0))) ∧ (w.heap.size ≤ s_.1) ∧ (w.heap.size ≤ s_.1) ∧ (G ≠ s_.1) ∧ (s_.1 ≠ G) ∧ (T ≠ s_.1) ∧ (s_.1 ≠ T) ∧ (Below w.heap.size w w')) ?_ ?_
 rotate_left
 ·intro hCont
  refine two_ (i := 0) (j := 10) (Ni := some 28) (Nj := some 37) #[true, true, true, true, true, true, false, false, true, true, false, false, false] #[false, true, true, true, true, true, false, false, true, true, true, false, false] rfl rfl rfl rfl (two_of HT_.out (by kernel_rfl)) (by decide) (by decide) (fun K hK => ?_) (fun K hK => ?_); rotate_left
  ·skip
   refine xG (Kd.int .i64) _ 2 ?hg (N := 37) ?hd (xs := ([z] : List Int)) (inner := [.int .i64 z]) (ok := fun _ => True) (okp := fun _ => True) ?hr ?hp (fun _ hk => hk) trivial (Below.refl _ _) (Nat.le_refl _) (by simp) ?_; (case hd => rfl); (case hg => rfl); (case hr => first | (go_simp; done) | (go_simp; rfl)); (case hp => exact (Reps.one (show Kd.M (Kd.int .i64) _ _ _ z [.int .i64 z] from rfl) (Reps.none _ _)))
   intro bq hW cb hb hg_ hnew_
   have aM := (hb.cell (World.block_lt_of_cell? _ _ (hHeld.2.2.2.2))).trans (hHeld.2.2.2.2)
   clear hg_ hnew_
   (first | rw [← bw.out] at cb | (simp only [Int.reduceToNat] at cb; rw [← bw.out] at cb))
   replace X := mA (zM (rP X.out) hb)
   have aw := mA (zV (yA cb (zN (rP Y.out))) (Zan (bW)))
   replace Y := mA (zZ (rP Y.out) (zT cb) hb)
   replace a := mA (blkB a.out hb)
   replace l := mA (blkB l.out hb)
   replace HB := mA (Zaf (bW) hb)
   clear hb cb
   refine hK.out _ _ ⟨bc a 0, bc a 1, bc a 2, bc a 3, aM⟩ (fun hHeld => ?_)
   clear hK K
   refine putS 37 ?_
   refine one_ (i := 0) (N := some 28) #[true, true, true, true, true, true, false, false, true, true, true, false, false] rfl rfl (Zb4 HT_.out (by kernel_rfl)) (by decide) (fun K hK => ?_)
   refine mapS_step (Value.int .i64) (Value.int .i64) (by rfl) ?_
   intro aa hg hX hbox hb
   have aM := (hb.cell (World.block_lt_of_cell? _ _ (hHeld.2.2.2.2))).trans (hHeld.2.2.2.2)
   replace X := mA (zM (rP X.out) hb)
   replace Y := mA (zM (rP Y.out) hb)
   replace aw := mA (zM (rP aw.out) hb)
   have r := mA (hbox)
   have bL := geW (w := w) hg
   have a2 := geW (w := w) hg
   replace HB := mA (Zaf (bW) hb)
   have ai := mA (neB hg a)
   have az := mA (neC hg a)
   replace a := mA (blkB a.out hb)
   have an := mA (neB hg l)
   have aP := mA (neC hg l)
   replace l := mA (blkB l.out hb)
   clear hb hbox hg
   refine hK.out _ _ ⟨bc a 0, bc a 1, bc a 2, bc a 3, aM⟩ (fun hHeld => ?_)
   clear hK K
   refine putS 28 ?_
   refine one_ (i := 6) (N := none) #[true, true, true, true, true, true, true, false, true, true, true, false, false] rfl rfl (Zb4 HT_.out (by kernel_rfl)) (by decide) (fun K hK => ?_)
   refine msetS_step (eK := (Value.int .i64)) (eV := (Value.int .i64)) (g := aa) (L := ([] : List (Int × Int))) (rd u z) 0 (by rfl) (mkey_int .i64) (bP r.out) Try.underlying104 Try.underlying2 ?_
   intro hY hbk hg
   have aM := cell_mset hg (bP r.out) (hHeld.2.2.2.2)
   replace a := mA (Zaq (g := G) (o := .cells #[.int .i64 y, .int .i64 z, .slice ak O.length ab, .slice ah x.length ac] 63 (0, 0)) (bP a.out) hg (fun e_ => ai.out (Option.some.inj e_)))
   replace l := mA (Zaq (g := T) (o := .cells #[.int .i64 0, .int .i64 0, .slice none 0 0, .slice none 0 0] 63 (0, 0)) (bP l.out) hg (fun e_ => an.out (Option.some.inj e_)))
   replace X := mA (Kd.R_mset (rP X.out) (bP r.out) hg)
   replace Y := mA (Kd.R_mset (rP Y.out) (bP r.out) hg)
   replace aw := mA (Kd.R_mset (rP aw.out) (bP r.out) hg)
   replace r := mA (hbk)
   replace HB := mA ((fun h_ => Below.grown h_ hg h_.size (fun k_ e_ => by injection e_ with e_; rw [← e_]; exact a2.out)) (bW))
   clear hg hbk
   refine hK.out _ _ ⟨bc a 0, bc a 1, bc a 2, bc a 3, aM⟩ (fun hHeld => ?_)
   clear hK K
   refine Zav (i := 7) (N := some 34) (Zaw HT_.out (by kernel_rfl)) ?_
   refine Zav (i := 11) (N := some 5) (Zaw HT_.out (by kernel_rfl)) ?_
   exact norm_ (by simp only [putAll, Act.put, List.setIfInBounds_toArray, List.set_cons_zero, List.set_cons_succ]) (hCont (aa, bq) _ ⟨hHeld, (rP X.out), (by (with_reducible repeat (first | apply zD | apply zE | apply zA)); exact zC Y.out (fun _ hk => hk.2)), (by (with_reducible repeat (first | apply zD | apply zE | apply zA)); exact zC aw.out (fun _ hk => hk.2)), (bP a.out), (bP l.out), (bP r.out), bL.out, a2.out, ai.out, az.out, an.out, aP.out, (bW)⟩)
  skip
  refine mapS_step (Value.int .i64) (Value.int .i64) (by rfl) ?_
  intro aa hg hW hbox hb
  have aM := (hb.cell (World.block_lt_of_cell? _ _ (hHeld.2.2.2.2))).trans (hHeld.2.2.2.2)
  replace X := mA (zM (rP X.out) hb)
  replace Y := mA (zM (rP Y.out) hb)
  have r := mA (hbox)
  have bL := geW (w := w) hg
  have a2 := geW (w := w) hg
  replace HB := mA (Zaf (bW) hb)
  have ai := mA (neB hg a)
  have az := mA (neC hg a)
  replace a := mA (blkB a.out hb)
  have an := mA (neB hg l)
  have aP := mA (neC hg l)
  replace l := mA (blkB l.out hb)
  clear hb hbox hg
  refine hK.out _ _ ⟨bc a 0, bc a 1, bc a 2, bc a 3, aM⟩ (fun hHeld => ?_)
  clear hK K
  refine putS 28 ?_
  refine two_ (i := 6) (j := 10) (Ni := none) (Nj := some 37) #[true, true, true, true, true, true, true, false, true, true, false, false, false] #[true, true, true, true, true, true, false, false, true, true, true, false, false] rfl rfl rfl rfl (two_of HT_.out (by kernel_rfl)) (by decide) (by decide) (fun K hK => ?_) (fun K hK => ?_)
  ·skip
   refine msetS_step (eK := (Value.int .i64)) (eV := (Value.int .i64)) (g := aa) (L := ([] : List (Int × Int))) (rd u z) 0 (by rfl) (mkey_int .i64) (bP r.out) Try.underlying104 Try.underlying2 ?_
   intro hZ hbk hg
   have aM := cell_mset hg (bP r.out) (hHeld.2.2.2.2)
   replace a := mA (Zaq (g := G) (o := .cells #[.int .i64 y, .int .i64 z, .slice ak O.length ab, .slice ah x.length ac] 63 (0, 0)) (bP a.out) hg (fun e_ => ai.out (Option.some.inj e_)))
   replace l := mA (Zaq (g := T) (o := .cells #[.int .i64 0, .int .i64 0, .slice none 0 0, .slice none 0 0] 63 (0, 0)) (bP l.out) hg (fun e_ => an.out (Option.some.inj e_)))
   replace X := mA (Kd.R_mset (rP X.out) (bP r.out) hg)
   replace Y := mA (Kd.R_mset (rP Y.out) (bP r.out) hg)
   replace r := mA (hbk)
   replace HB := mA ((fun h_ => Below.grown h_ hg h_.size (fun k_ e_ => by injection e_ with e_; rw [← e_]; exact a2.out)) (bW))
   clear hg hbk
   refine hK.out _ _ ⟨bc a 0, bc a 1, bc a 2, bc a 3, aM⟩ (fun hHeld => ?_)
   clear hK K
   refine Zav (i := 7) (N := some 34) (Zaw HT_.out (by kernel_rfl)) ?_
   refine Zav (i := 11) (N := some 5) (Zaw HT_.out (by kernel_rfl)) ?_
   refine one_ (i := 10) (N := some 37) #[true, true, true, true, true, true, true, true, true, true, true, true, false] rfl rfl (Zb4 HT_.out (by kernel_rfl)) (by decide) (fun K hK => ?_)
   refine xG (Kd.int .i64) _ 2 ?hg (N := 37) ?hd (xs := ([z] : List Int)) (inner := [.int .i64 z]) (ok := fun _ => True) (okp := fun _ => True) ?hr ?hp (fun _ hk => hk) trivial (Below.refl _ _) (Nat.le_refl _) (by simp) ?_; (case hd => rfl); (case hg => rfl); (case hr => first | (go_simp; done) | (go_simp; rfl)); (case hp => exact (Reps.one (show Kd.M (Kd.int .i64) _ _ _ z [.int .i64 z] from rfl) (Reps.none _ _)))
   intro bq hX cc hb hg_ hnew_
   have aM := (hb.cell (World.block_lt_of_cell? _ _ (hHeld.2.2.2.2))).trans (hHeld.2.2.2.2)
   clear hg_ hnew_
   (first | rw [← bw.out] at cc | (simp only [Int.reduceToNat] at cc; rw [← bw.out] at cc))
   replace X := mA (zM (rP X.out) hb)
   have aw := mA (zV (yA cc (zN (rP Y.out))) (Zan (bW)))
   replace Y := mA (zZ (rP Y.out) (zT cc) hb)
   replace a := mA (blkB a.out hb)
   replace l := mA (blkB l.out hb)
   replace r := mA (blkB r.out hb)
   replace HB := mA (Zaf (bW) hb)
   clear hb cc
   refine hK.out _ _ ⟨bc a 0, bc a 1, bc a 2, bc a 3, aM⟩ (fun hHeld => ?_)
   clear hK K
   refine putS 37 ?_
   exact norm_ (by simp only [putAll, Act.put, List.setIfInBounds_toArray, List.set_cons_zero, List.set_cons_succ]) (hCont (aa, bq) _ ⟨hHeld, (rP X.out), (by (with_reducible repeat (first | apply zD | apply zE | apply zA)); exact zC Y.out (fun _ hk => hk.2)), (by (with_reducible repeat (first | apply zD | apply zE | apply zA)); exact zC aw.out (fun _ hk => hk.2)), (bP a.out), (bP l.out), (bP r.out), bL.out, a2.out, ai.out, az.out, an.out, aP.out, (bW)⟩)
  skip
  refine xG (Kd.int .i64) _ 2 ?hg (N := 37) ?hd (xs := ([z] : List Int)) (inner := [.int .i64 z]) (ok := fun _ => True) (okp := fun _ => True) ?hr ?hp (fun _ hk => hk) trivial (Below.refl _ _) (Nat.le_refl _) (by simp) ?_; (case hd => rfl); (case hg => rfl); (case hr => first | (go_simp; done) | (go_simp; rfl)); (case hp => exact (Reps.one (show Kd.M (Kd.int .i64) _ _ _ z [.int .i64 z] from rfl) (Reps.none _ _)))
  intro bq hZ cd hb hg_ hnew_
  have aM := (hb.cell (World.block_lt_of_cell? _ _ (hHeld.2.2.2.2))).trans (hHeld.2.2.2.2)
  clear hg_ hnew_
  (first | rw [← bw.out] at cd | (simp only [Int.reduceToNat] at cd; rw [← bw.out] at cd))
  replace X := mA (zM (rP X.out) hb)
  have aw := mA (zV (yA cd (zN (rP Y.out))) (Zan (bW)))
  replace Y := mA (zZ (rP Y.out) (zT cd) hb)
  replace a := mA (blkB a.out hb)
  replace l := mA (blkB l.out hb)
  replace r := mA (blkB r.out hb)
  replace HB := mA (Zaf (bW) hb)
  clear hb cd
  refine hK.out _ _ ⟨bc a 0, bc a 1, bc a 2, bc a 3, aM⟩ (fun hHeld => ?_)
  clear hK K
  refine putS 37 ?_
  refine one_ (i := 6) (N := none) #[true, true, true, true, true, true, true, false, true, true, true, false, false] rfl rfl (Zb4 HT_.out (by kernel_rfl)) (by decide) (fun K hK => ?_)
  refine msetS_step (eK := (Value.int .i64)) (eV := (Value.int .i64)) (g := aa) (L := ([] : List (Int × Int))) (rd u z) 0 (by rfl) (mkey_int .i64) (bP r.out) Try.underlying104 Try.underlying2 ?_
  intro hY hbk hg
  have aM := cell_mset hg (bP r.out) (hHeld.2.2.2.2)
  replace a := mA (Zaq (g := G) (o := .cells #[.int .i64 y, .int .i64 z, .slice ak O.length ab, .slice ah x.length ac] 63 (0, 0)) (bP a.out) hg (fun e_ => ai.out (Option.some.inj e_)))
  replace l := mA (Zaq (g := T) (o := .cells #[.int .i64 0, .int .i64 0, .slice none 0 0, .slice none 0 0] 63 (0, 0)) (bP l.out) hg (fun e_ => an.out (Option.some.inj e_)))
  replace X := mA (Kd.R_mset (rP X.out) (bP r.out) hg)
  replace Y := mA (Kd.R_mset (rP Y.out) (bP r.out) hg)
  replace aw := mA (Kd.R_mset (rP aw.out) (bP r.out) hg)
  replace r := mA (hbk)
  replace HB := mA ((fun h_ => Below.grown h_ hg h_.size (fun k_ e_ => by injection e_ with e_; rw [← e_]; exact a2.out)) (bW))
  clear hg hbk
  refine hK.out _ _ ⟨bc a 0, bc a 1, bc a 2, bc a 3, aM⟩ (fun hHeld => ?_)
  clear hK K
  refine Zav (i := 7) (N := some 34) (Zaw HT_.out (by kernel_rfl)) ?_
  refine Zav (i := 11) (N := some 5) (Zaw HT_.out (by kernel_rfl)) ?_
  exact norm_ (by simp only [putAll, Act.put, List.setIfInBounds_toArray, List.set_cons_zero, List.set_cons_succ]) (hCont (aa, bq) _ ⟨hHeld, (rP X.out), (by (with_reducible repeat (first | apply zD | apply zE | apply zA)); exact zC Y.out (fun _ hk => hk.2)), (by (with_reducible repeat (first | apply zD | apply zE | apply zA)); exact zC aw.out (fun _ hk => hk.2)), (bP a.out), (bP l.out), (bP r.out), bL.out, a2.out, ai.out, az.out, an.out, aP.out, (bW)⟩)
 rintro ⟨aa, bq⟩ w23 ⟨hS_, d1, d2, d3, d4, d5, d6, d7, d8, d9, ea, fn, fo, fp⟩
 have eb : Zad (Kd.R Kd.bool 4 w23 w.heap.size (fun _ => True) (.slice (some cJ) aZ.length eC) aZ) := ⟨d1⟩
 have ec : Zad (Kd.R (Kd.int .i64) 2 w23 w.heap.size (fun k_ => some k_ ≠ (bq : Value).ownBlock) (.slice (some A) u.length W) u) := ⟨d2⟩
 have ed : Zad (Kd.R (Kd.int .i64) 2 w23 w.heap.size (fun k_ => some k_ ≠ (.slice (some A) u.length W : Value).ownBlock) bq eB) := ⟨d3⟩
 have ee : Zad (w23.heap[G]? = some (.cells #[.int .i64 y, .int .i64 z, .slice ak O.length ab, .slice ah x.length ac] 63 (0, 0))) := ⟨d4⟩
 have ef : Zad (w23.heap[T]? = some (.cells #[.int .i64 0, .int .i64 0, .slice none 0 0, .slice none 0 0] 63 (0, 0))) := ⟨d5⟩
 have eg : Zad (w23.heap[aa]? = some (mobj (Value.int .i64) (Value.int .i64) (mset ([] : List (Int × Int)) (rd u z) 0))) := ⟨d6⟩
 have eh : Zad (w.heap.size ≤ aa) := ⟨d7⟩
 have ei : Zad (w.heap.size ≤ aa) := ⟨d8⟩
 have ej : Zad (G ≠ aa) := ⟨d9⟩
 have ek : Zad (aa ≠ G) := ⟨ea⟩
 have fq : Zad (T ≠ aa) := ⟨fn⟩
 have fr : Zad (aa ≠ T) := ⟨fo⟩
 have fs : Zad (Below w.heap.size w w23) := ⟨fp⟩
 clear X Y a l HB d1 d2 d3 d4 d5 d6 d7 d8 d9 ea fn fo fp; have X := eb; have Y := ec; have aw := ed; have a := ee; have l := ef; have r := eg; have bL := eh; have a2 := ei; have ai := ej; have az := ek; have an := fq; have aP := fr; have HB := fs; clear eb ec ed ee ef eg eh ei ej ek fq fr fs
 have hHeld : w23.cell? ⟨G, 0, none⟩ = some (.int .i64 y) ∧ w23.cell? ⟨G, 1, none⟩ = some (.int .i64 z) ∧ w23.cell? ⟨G, 2, none⟩ = some (.slice ak O.length ab) ∧ w23.cell? ⟨G, 3, none⟩ = some (.slice ah x.length ac) ∧ w23.cell? (A.add (z).toNat) = some (.int .i64 (rd u z)) := hS_
 refine norm_ (a' := ?_) ?_ ?_
 rotate_left
 ·simp only [putAll, Act.put, List.setIfInBounds_toArray, List.set_cons_zero, List.set_cons_succ]
  rfl
 refine Zav (i := 12) (N := some 6) (Zaw HT_.out (by kernel_rfl)) ?_
 refine done_ (done_of HT_.out (by kernel_rfl)) ?_
 have ii := ai.out
 have ij := az.out
 have ce : w23.cell? ⟨G, 0, none⟩ = some (.int .i64 y) := bc a 0
 have cf : w23.cell? ⟨G, 1, none⟩ = some (.int .i64 z) := bc a 1
 have cg : w23.cell? ⟨G, 2, none⟩ = some (.slice ak O.length ab) := bc a 2
 have ch : w23.cell? ⟨G, 3, none⟩ = some (.slice ah x.length ac) := bc a 3
 have ci := Zae a.out 0
 have cj := Zae a.out 1
 have ck := Zae a.out 2
 have cm := Zae a.out 3
 try go_wp2_with (first | ((with_reducible refine Zap (N := 7) rfl ?_); refine boxS (N := 7) (cs := #[.int .i64 0, .int .i64 0, .slice none 0 0, .slice none 0 0]) (t := 63) ?_; intro P hg jb hbox hb; replace X := mA (zM (rP X.out) hb); replace Y := mA (zM (rP Y.out) hb); replace aw := mA (zM (rP aw.out) hb); have m := mA (hbox); have ik := geW (w := w) hg; have il := geW (w := w) hg; replace HB := mA (Zaf (bW) hb); have aj := mA (neB hg a); have aW := mA (neC hg a); replace a := mA (blkB a.out hb); have ao := mA (neB hg l); have a8 := mA (neC hg l); replace l := mA (blkB l.out hb); have ap := mA (neB hg r); have aX := mA (neC hg r); replace r := mA (blkB r.out hb); clear hb hbox hg; have im := aW.out; have io := aj.out; have ip := a8.out; have iq := ao.out; have ir := aX.out; have it := ap.out; obtain ⟨cn, co, cp, cq⟩ := Zau m.out; obtain ⟨cr, ct, cu, cv⟩ := frz4 m.out))
 go_loopg [6, 8] k (fun kq v6 v8 w' => ∃ (cw : List Int) (v : Int) (aY : List (Int × Int)) (B : List Bool) (s : List (List Int)) (aq : Value) (ar : Value), v8 = .int .i64 v ∧ Zad (Zaj.l0 kq u cw v y z O x aY y 0 B s = some (r1, r2, r3, r4)) ∧ Zad (kq ≤ k) ∧ Zad (Kd.R (Kd.int .i64) 2 w' w.heap.size (fun k_ => some k_ ≠ (v6 : Value).ownBlock) (.slice (some A) u.length W) u) ∧ Zad (Kd.R (Kd.int .i64) 2 w' w.heap.size (fun k_ => some k_ ≠ ((.slice (some A) u.length W) : Value).ownBlock) v6 cw) ∧ Zad (Kd.R Kd.bool 4 w' w.heap.size (fun _ => True) aq B) ∧ Zad (Kd.S (Kd.slice 2 (Kd.int .i64)) 33 w' w.heap.size (fun k_ => some k_ ≠ ((.slice (some A) u.length W) : Value).ownBlock ∧ some k_ ≠ (v6 : Value).ownBlock) ar s) ∧ Zad (w'.heap[G]? = some (.cells #[.int .i64 y, .int .i64 z, (.slice ak O.length ab), (.slice ah x.length ac)] 63 (0, 0))) ∧ Zad (w'.heap[T]? = some (.cells #[.int .i64 0, .int .i64 0, (.slice none 0 0), (.slice none 0 0)] 63 (0, 0))) ∧ Zad (w'.heap[aa]? = some (mobj (Value.int .i64) (Value.int .i64) aY)) ∧ Zad (w'.heap[P]? = some (.cells #[.int .i64 y, .int .i64 0, aq, ar] 63 (0, 0))) ∧ Zad (Below w.heap.size w w'))
 case atStart => exact ⟨(eB), (0), (mset ([] : List (Int × Int)) (rd u z) 0), (([] : List Bool)), (([] : List (List Int))), (.slice none 0 0), (.slice none 0 0), (eW), H', ⟨Nat.le_refl _⟩, ⟨by (with_reducible repeat (first | apply zD | apply zE | apply zA)); exact zC (zH (p := ⟨P, 3, none⟩) (zH (p := ⟨P, 2, none⟩) (zH (p := ⟨P, 1, none⟩) (zH (p := ⟨P, 0, none⟩) (zX Y.out m.out (by decide)) (fun _ hk => hk.2) (.int .i64 y)) (fun _ hk => hk.2) (.int .i64 0)) (fun _ hk => hk.2) (.slice none 0 0)) (fun _ hk => hk.2) (.slice none 0 0)) (fun _ hk => hk.1)⟩, ⟨by (with_reducible repeat (first | apply zD | apply zE | apply zA)); exact zC (zH (p := ⟨P, 3, none⟩) (zH (p := ⟨P, 2, none⟩) (zH (p := ⟨P, 1, none⟩) (zH (p := ⟨P, 0, none⟩) (zX aw.out m.out (by decide)) (fun _ hk => hk.2) (.int .i64 y)) (fun _ hk => hk.2) (.int .i64 0)) (fun _ hk => hk.2) (.slice none 0 0)) (fun _ hk => hk.2) (.slice none 0 0)) (fun _ hk => hk.1)⟩, ⟨by first | exact yT _ _ _ _ _ | exact xE _ _ _ _ _ | exact xF _ _ _ _ _ | exact xB _ _ _ _ _ | exact xC _ _ _ _ _⟩, ⟨by first | exact xC _ _ _ _ _ | exact xE _ _ _ _ _ | exact xF _ _ _ _ _ | exact xB _ _ _ _ _ | exact yT _ _ _ _ _⟩, ⟨by (with_reducible repeat (first | refine Zac ?_ _ | refine Zab ?_ | refine Zaa ?_ _)); refine Zcu ?_ aj.out _; (with_reducible repeat (first | refine Zac ?_ _ | refine Zab ?_ | refine Zaa ?_ _)); refine Zcu ?_ aj.out _; (with_reducible repeat (first | refine Zac ?_ _ | refine Zab ?_ | refine Zaa ?_ _)); refine Zcu ?_ aj.out _; (with_reducible repeat (first | refine Zac ?_ _ | refine Zab ?_ | refine Zaa ?_ _)); refine Zcu ?_ aj.out _; exact bP a.out⟩, ⟨by (with_reducible repeat (first | refine Zac ?_ _ | refine Zab ?_ | refine Zaa ?_ _)); refine Zcu ?_ ao.out _; (with_reducible repeat (first | refine Zac ?_ _ | refine Zab ?_ | refine Zaa ?_ _)); refine Zcu ?_ ao.out _; (with_reducible repeat (first | refine Zac ?_ _ | refine Zab ?_ | refine Zaa ?_ _)); refine Zcu ?_ ao.out _; (with_reducible repeat (first | refine Zac ?_ _ | refine Zab ?_ | refine Zaa ?_ _)); refine Zcu ?_ ao.out _; exact bP l.out⟩, ⟨by (with_reducible repeat (first | refine Zac ?_ _ | refine Zab ?_ | refine Zaa ?_ _)); refine Zcu ?_ ap.out _; (with_reducible repeat (first | refine Zac ?_ _ | refine Zab ?_ | refine Zaa ?_ _)); refine Zcu ?_ ap.out _; (with_reducible repeat (first | refine Zac ?_ _ | refine Zab ?_ | refine Zaa ?_ _)); refine Zcu ?_ ap.out _; (with_reducible repeat (first | refine Zac ?_ _ | refine Zab ?_ | refine Zaa ?_ _)); refine Zcu ?_ ap.out _; exact bP r.out⟩, ⟨by (with_reducible repeat (first | refine Zac ?_ _ | refine Zab ?_ | refine Zaa ?_ _)); refine Zao (cs := #[.int .i64 y, .int .i64 0, .slice none 0 0, .slice none 0 0]) ?_ 3 _ rfl; (with_reducible repeat (first | refine Zac ?_ _ | refine Zab ?_ | refine Zaa ?_ _)); refine Zao (cs := #[.int .i64 y, .int .i64 0, .slice none 0 0, .slice none 0 0]) ?_ 2 _ rfl; (with_reducible repeat (first | refine Zac ?_ _ | refine Zab ?_ | refine Zaa ?_ _)); refine Zao (cs := #[.int .i64 y, .int .i64 0, .slice none 0 0, .slice none 0 0]) ?_ 1 _ rfl; (with_reducible repeat (first | refine Zac ?_ _ | refine Zab ?_ | refine Zaa ?_ _)); refine Zao (cs := #[.int .i64 0, .int .i64 0, .slice none 0 0, .slice none 0 0]) ?_ 0 _ rfl; exact bP m.out⟩, ⟨bW⟩⟩
 case round =>
  clear H'
  try clear c1
  try clear c2
  try clear p2
  try clear c3
  try clear eu
  try clear p3
  try clear q3
  try clear hx3
  try clear c4
  try clear ev
  try clear c5
  try clear q5
  try clear c6
  try clear c8
  try clear eA
  try clear c9
  try clear c11
  try clear c24
  try clear c27
  try clear c28
  try clear c29
  try clear bS
  try clear bT
  try clear bU
  try clear bV
  try clear b1
  try clear b2
  try clear b3
  try clear b4
  try clear ce
  try clear cf
  try clear cg
  try clear ch
  try clear cn
  try clear co
  try clear cp
  try clear cq
  try clear bX
  try clear bY
  try clear bZ
  try clear b0
  try clear b5
  try clear b6
  try clear b7
  try clear b8
  try clear ci
  try clear cj
  try clear ck
  try clear cm
  try clear cr
  try clear ct
  try clear cu
  try clear cv
  try clear a3
  try clear bf
  try clear ba
  try clear b9
  try clear bb
  try clear ca
  obtain ⟨cw, v, aY, B, s, aq, ar, rfl, HA, bA, D, E, d, c, a, l, r, m, HB⟩ := hrel
  cases gk with
  | zero => exact absurd HA.out (by simp [Zaj.l0])
  | succ k1 =>
   have H := HA.out
   clear HA
   simp only [Zaj.l0] at H
   by_cases cG : v < (cw.length : Int); rotate_left
   ·rw [if_neg cG] at H
    have du := dF cG
    clear cG
    simp only [Option.some.injEq, Prod.mk.injEq] at H
    obtain ⟨rfl, rfl, rfl, rfl⟩ := H
    obtain ⟨iu, iv, fL⟩ := zP E.out
    subst fL
    have h0 := aW.out
    have h1 := aj.out
    have h2 := a8.out
    have h3 := ao.out
    have h4 := aX.out
    have h5 := ap.out
    have gT : wr.cell? ⟨P, 0, none⟩ = some (.int .i64 y) := bc m 0
    have gU : wr.cell? ⟨P, 1, none⟩ = some (.int .i64 0) := bc m 1
    have gV : wr.cell? ⟨P, 2, none⟩ = some (aq) := bc m 2
    have gW : wr.cell? ⟨P, 3, none⟩ = some (ar) := bc m 3
    have gX := Zae m.out 0
    have gY := Zae m.out 1
    have gZ := Zae m.out 2
    have g0 := Zae m.out 3
    have h6 := aV.out
    have h7 := aU.out
    have h8 := an.out
    have h9 := aP.out
    have g1 : wr.cell? ⟨T, 0, none⟩ = some (.int .i64 0) := bc l 0
    have g2 : wr.cell? ⟨T, 1, none⟩ = some (.int .i64 0) := bc l 1
    have g3 : wr.cell? ⟨T, 2, none⟩ = some (.slice none 0 0) := bc l 2
    have g4 : wr.cell? ⟨T, 3, none⟩ = some (.slice none 0 0) := bc l 3
    have g5 := Zae l.out 0
    have g6 := Zae l.out 1
    have g7 := Zae l.out 2
    have g8 := Zae l.out 3
    obtain ⟨cM, cN, fM⟩ := zP d.out
    subst fM
    obtain ⟨dv, dw, fN⟩ := yD c.out
    subst fN
    go_wp2
    refine bodyPost_ret (results_cell_row rfl _ _ T 63 #[.int .i64 y, .int .i64 0, .slice cM B.length cN, .slice dv s.length dw] (0, 0) _ rfl (by (with_reducible repeat (first | refine Zac ?_ _ | refine Zab ?_ | refine Zaa ?_ _)); refine Zao (cs := #[.int .i64 y, .int .i64 0, .slice cM B.length cN, .slice none 0 0]) ?_ 3 _ rfl; (with_reducible repeat (first | refine Zac ?_ _ | refine Zab ?_ | refine Zaa ?_ _)); refine Zao (cs := #[.int .i64 y, .int .i64 0, .slice none 0 0, .slice none 0 0]) ?_ 2 _ rfl; (with_reducible repeat (first | refine Zac ?_ _ | refine Zab ?_ | refine Zaa ?_ _)); refine Zao (cs := #[.int .i64 y, .int .i64 0, .slice none 0 0, .slice none 0 0]) ?_ 1 _ rfl; (with_reducible repeat (first | refine Zac ?_ _ | refine Zab ?_ | refine Zaa ?_ _)); refine Zao (cs := #[.int .i64 0, .int .i64 0, .slice none 0 0, .slice none 0 0]) ?_ 0 _ rfl; exact bP l.out) Try.underlying63 rfl (by kernel_rfl)) rfl ?_
    exact ⟨_, _, eW, by (with_reducible repeat (first | apply zD | apply zE | apply zA)); exact zC (zH (p := ⟨T, 3, none⟩) (zH (p := ⟨T, 2, none⟩) (zH (p := ⟨T, 1, none⟩) (zH (p := ⟨T, 0, none⟩) (zX d.out l.out (by decide)) (fun _ hk => hk.2) (.int .i64 y)) (fun _ hk => hk.2) (.int .i64 0)) (fun _ hk => hk.2) (.slice cM B.length cN)) (fun _ hk => hk.2) (.slice dv s.length dw)) (fun _ hk => trivial), by (with_reducible repeat (first | apply zI | apply zJ | apply zG)); exact zF (zB (p := ⟨T, 3, none⟩) (zB (p := ⟨T, 2, none⟩) (zB (p := ⟨T, 1, none⟩) (zB (p := ⟨T, 0, none⟩) (zR c.out l.out (by decide)) (fun _ hk => hk.2) (.int .i64 y)) (fun _ hk => hk.2) (.int .i64 0)) (fun _ hk => hk.2) (.slice cM B.length cN)) (fun _ hk => hk.2) (.slice dv s.length dw)) (fun _ hk => trivial), bW⟩
   rw [if_pos cG] at H
   have du := dT cG
   clear cG
   obtain ⟨ft, dx⟩ : ∃ y_ : List Int, y_ = (([] : List Int)) := ⟨_, rfl⟩
   replace H : (Zaj.l1 k1 u cw v ft y 0 y z O x aY y 0 B s) = some (r1, r2, r3, r4) := by rw [dx]; with_reducible exact H
   have eX := mA dx
   clear dx
   have H' := mA H
   clear H
   obtain ⟨iV, iW, g9⟩ := zP E.out
   subst g9
   go_wp2_with (first | ((with_reducible refine Zap (N := 47) rfl ?_); refine yS (Kd.int .i64) _ 2 ?hg (N := 47) ?hd (xs := ([] : List Int)) (inner := []) (ok := fun _ => True) (okp := fun _ => True) ?hr ?hp (fun _ hk => hk) trivial (Below.refl _ _) (Nat.le_refl _) (by simp) ?_; (case hd => rfl); (case hg => rfl); (case hr => first | (go_simp; done) | (go_simp; rfl)); (case hp => exact (Reps.none _ _)); intro iX jc br hb hg_ hnew_; clear hg_ hnew_; (first | rw [← eX.out] at br | (simp only [Int.reduceToNat] at br; rw [← eX.out] at br)); replace d := mA (zM (rP d.out) hb); replace c := mA (yK (sP c.out) (zT br) hb); have fO := mA (zV (yA (yA br (zN (rP D.out))) (zN (rP E.out))) (Zan (bW))); replace D := mA (zZ (rP D.out) (zT br) hb); replace E := mA (zZ (rP E.out) (zT br) hb); replace a := mA (blkB a.out hb); replace l := mA (blkB l.out hb); replace r := mA (blkB r.out hb); replace m := mA (blkB m.out hb); replace HB := mA (Zaf (bW) hb); clear hb br; have iw := aU.out; have ix := aV.out; have iy := ai.out; have iz := az.out; have iA := aj.out; have iB := aW.out; obtain ⟨c0, da, db, dc⟩ := Zau a.out; obtain ⟨dd, de, df, dg⟩ := frz4 a.out))
   go_loopg [6, 9, 50] k1 (fun kq v6 v9 v50 w' => ∃ (q : List Int) (ad : List Int) (J : Int) (I : List (Int × Int)), v50 = .int .i64 J ∧ Zad (Zaj.l1 kq u q v ad y J y z O x I y 0 B s = some (r1, r2, r3, r4)) ∧ Zad (kq ≤ k1) ∧ Zad (Kd.R (Kd.int .i64) 2 w' w.heap.size (fun k_ => some k_ ≠ (v6 : Value).ownBlock ∧ some k_ ≠ (v9 : Value).ownBlock) (.slice (some A) u.length W) u) ∧ Zad (Kd.R (Kd.int .i64) 2 w' w.heap.size (fun k_ => some k_ ≠ ((.slice (some A) u.length W) : Value).ownBlock ∧ some k_ ≠ (v9 : Value).ownBlock) v6 q) ∧ Zad (Kd.R (Kd.int .i64) 2 w' w.heap.size (fun k_ => some k_ ≠ ((.slice (some A) u.length W) : Value).ownBlock ∧ some k_ ≠ (v6 : Value).ownBlock) v9 ad) ∧ Zad (Kd.R Kd.bool 4 w' w.heap.size (fun _ => True) aq B) ∧ Zad (Kd.S (Kd.slice 2 (Kd.int .i64)) 33 w' w.heap.size (fun k_ => some k_ ≠ ((.slice (some A) u.length W) : Value).ownBlock ∧ some k_ ≠ (v6 : Value).ownBlock ∧ some k_ ≠ (v9 : Value).ownBlock) ar s) ∧ Zad (w'.heap[G]? = some (.cells #[.int .i64 y, .int .i64 z, (.slice ak O.length ab), (.slice ah x.length ac)] 63 (0, 0))) ∧ Zad (w'.heap[T]? = some (.cells #[.int .i64 0, .int .i64 0, (.slice none 0 0), (.slice none 0 0)] 63 (0, 0))) ∧ Zad (w'.heap[aa]? = some (mobj (Value.int .i64) (Value.int .i64) I)) ∧ Zad (w'.heap[P]? = some (.cells #[.int .i64 y, .int .i64 0, aq, ar] 63 (0, 0))) ∧ Zad (Below w.heap.size w w'))
   case atStart => exact ⟨(cw), (ft), (0), (aY), (eW), H', ⟨Nat.le_refl _⟩, ⟨rP D.out⟩, ⟨rP E.out⟩, ⟨by (with_reducible repeat (first | apply zD | apply zE | apply zA)); exact zC fO.out (fun _ hk => ⟨hk.1.2, hk.2⟩)⟩, ⟨rP d.out⟩, ⟨by (with_reducible repeat (first | apply zI | apply zJ | apply zG)); exact zF c.out (fun _ hk => ⟨hk.1.1, ⟨hk.1.2, hk.2⟩⟩)⟩, ⟨bP a.out⟩, ⟨bP l.out⟩, ⟨bP r.out⟩, ⟨bP m.out⟩, ⟨bW⟩⟩
   case round =>
    clear H'
    try clear c1
    try clear c2
    try clear p2
    try clear c3
    try clear eu
    try clear p3
    try clear q3
    try clear hx3
    try clear c4
    try clear ev
    try clear c5
    try clear q5
    try clear c6
    try clear c8
    try clear eA
    try clear c9
    try clear c11
    try clear c24
    try clear c27
    try clear c28
    try clear c29
    try clear cG
    try clear du
    try clear c35
    try clear c36
    try clear c37
    try clear p38
    try clear q38
    try clear hx38
    try clear bS
    try clear bT
    try clear bU
    try clear bV
    try clear b1
    try clear b2
    try clear b3
    try clear b4
    try clear ce
    try clear cf
    try clear cg
    try clear ch
    try clear cn
    try clear co
    try clear cp
    try clear cq
    try clear c0
    try clear da
    try clear db
    try clear dc
    try clear bX
    try clear bY
    try clear bZ
    try clear b0
    try clear b5
    try clear b6
    try clear b7
    try clear b8
    try clear ci
    try clear cj
    try clear ck
    try clear cm
    try clear cr
    try clear ct
    try clear cu
    try clear cv
    try clear dd
    try clear de
    try clear df
    try clear dg
    try clear a3
    try clear bf
    try clear p2
    try clear p3
    try clear ba
    try clear b9
    try clear q3
    try clear bb
    try clear ca
    try clear q5
    obtain ⟨q, ad, J, I, rfl, HA, bB, D, E, U, d, c, a, l, r, m, HB⟩ := hrel
    cases gk with
    | zero => exact absurd HA.out (by simp [Zaj.l1])
    | succ k2 =>
     have H := HA.out
     clear HA
     simp only [Zaj.l1] at H
     by_cases cR : J < y
     ·rw [if_pos cR] at H
      have eY := dT cR
      clear cR
      by_cases el : 0 ≤ v; rotate_left
      ·rw [if_neg el] at H
       exact absurd H (by simp)
      rw [if_pos el] at H
      have fP := dT el
      clear el
      by_cases em : v < (q.length : Int); rotate_left
      ·rw [if_neg em] at H
       exact absurd H (by simp)
      rw [if_pos em] at H
      have fQ := dT em
      clear em
      by_cases en : 0 ≤ (rd q v); rotate_left
      ·rw [if_neg en] at H
       exact absurd H (by simp)
      rw [if_pos en] at H
      have fR := dT en
      clear en
      by_cases eo : (rd q v) < (x.length : Int); rotate_left
      ·rw [if_neg eo] at H
       exact absurd H (by simp)
      rw [if_pos eo] at H
      have fS := dT eo
      clear eo
      by_cases ep : 0 ≤ J; rotate_left
      ·rw [if_neg ep] at H
       exact absurd H (by simp)
      rw [if_pos ep] at H
      have fT := dT ep
      clear ep
      by_cases er : J < ((Zah x (rd q v)).length : Int); rotate_left
      ·rw [if_neg er] at H
       exact absurd H (by simp)
      rw [if_pos er] at H
      have fU := dT er
      clear er
      have eD := mA H
      clear H
      try go_wp2
      replace D := mA (zA D.out)
      replace E := mA (zA E.out)
      replace U := mA (zA U.out)
      replace d := mA (zA d.out)
      replace c := mA (zG c.out)
      replace a := mA (Zab a.out)
      replace l := mA (Zab l.out)
      replace r := mA (Zab r.out)
      replace m := mA (Zab m.out)
      replace HB := mA (Za3 HB.out)
      obtain ⟨iY, aT, fu⟩ := zP E.out
      (first | subst fu | (injection fu with al aE am; have aG := al.symm; have aH := am.symm; clear al aE am; subst aG; subst aH))
      have dy : 0 ≤ (v : Int) := ofD
      have dz : v < (q.length : Int) := ofD
      obtain ⟨ay, ha, cx⟩ := zO (zK E.out).2.2 v dy dz
      cases ha
      replace dy := eq_true dy
      replace dz := eq_true dz
      have dA : 0 ≤ ((rd q v) : Int) := ofD
      have dB : (rd q v) < (x.length : Int) := ofD
      obtain ⟨a9, ia, fv, hc, a4, dh, di⟩ := Zca cI.out (rd q v) dA dB
      have fi := a4
      cases hc
      replace a4 := (HB.out.cell (wB w a4)).trans a4
      have dj := mA di
      have hJ := mA dh
      clear di dh
      replace dA := eq_true dA
      replace dB := eq_true dB
      have dC : 0 ≤ (J : Int) := ofD
      have dD : J < ((Zah x (rd q v)).length : Int) := ofD
      obtain ⟨eZ, he, a5⟩ := zO dj.out J dC dD
      have fj := a5
      cases he
      replace a5 := (HB.out.cell (wB w a5)).trans a5
      replace dC := eq_true dC
      replace dD := eq_true dD
      refine start_ (n := 12) (S := fun w' => w'.cell? ⟨G, 0, none⟩ = some (.int .i64 y) ∧ w'.cell? ⟨G, 1, none⟩ = some (.int .i64 z) ∧ w'.cell? ⟨G, 2, none⟩ = some (.slice ak O.length ab) ∧ w'.cell? ⟨G, 3, none⟩ = some (.slice (some a9) x.length ac) ∧ w'.cell? (ay.add (v).toNat) = some (.int .i64 (rd q v)) ∧ w'.cell? (a9.add ((rd q v)).toNat) = some (.slice (some eZ) (Zah x (rd q v)).length fv) ∧ w'.cell? (eZ.add (J).toNat) = some (.int .i64 (rd (Zah x (rd q v)) J))) (ds := []) #[false, false, false, false, false, false, false, false, false, false, false, false] (by kernel_rfl) rfl rfl ⟨bc a 0, bc a 1, bc a 2, bc a 3, cx, (cB HB fi :), (cB HB fj :)⟩ (fun hHeld => ?_); refine Zc0 Zaj.tab14 Zaj.bits14 (fun HT_ HW_ => ?_)
      generalize wr.drew = w47 at D E U d c a l r m HB dj cx a4 a5 hHeld ⊢
      refine Zav (i := 0) (N := some 53) (Zaw HT_.out (by kernel_rfl)) ?_
      refine Zav (i := 2) (N := some 55) (Zaw HT_.out (by kernel_rfl)) ?_
      refine Zav (i := 3) (N := some 56) (Zaw HT_.out (by kernel_rfl)) ?_
      refine Zav (i := 4) (N := some 57) (Zaw HT_.out (by kernel_rfl)) ?_
      refine Zav (i := 8) (N := some 61) (Zaw HT_.out (by kernel_rfl)) ?_
      refine Zbt (i := 1) (N := some 54) (Zbb HT_.out HW_.out (by kernel_rfl)) hHeld ?_
      refine Zbt (i := 5) (N := some 58) (Zbb HT_.out HW_.out (by kernel_rfl)) hHeld ?_
      refine Zav (i := 6) (N := some 59) (Zaw HT_.out (by kernel_rfl)) ?_
      refine Zbt (i := 7) (N := some 60) (Zbb HT_.out HW_.out (by kernel_rfl)) hHeld ?_
      refine Zav (i := 9) (N := some 62) (Zaw HT_.out (by kernel_rfl)) ?_
      refine Zbt (i := 10) (N := some 63) (Zbb HT_.out HW_.out (by kernel_rfl)) hHeld ?_
      refine Zav (i := 11) (N := some 11) (Zaw HT_.out (by kernel_rfl)) ?_
      refine done_ (done_of HT_.out (by kernel_rfl)) ?_
      go_upto_region 15 with (fail)
      go_cut [72] (fun v72 wc => ∃ (kq : Nat) (bM : Bool), v72 = .bool bM ∧ Zad (Zaj.j2 kq u q v ad (rd (Zah x (rd q v)) J) y J bM y z O x I y 0 B s = some (r1, r2, r3, r4)) ∧ Zad (kq ≤ k2) ∧ Zad (Kd.R (Kd.int .i64) 2 wc w.heap.size (fun k_ => some k_ ≠ ((.slice (some ay) q.length aT) : Value).ownBlock ∧ some k_ ≠ (u9 : Value).ownBlock) (.slice (some A) u.length W) u) ∧ Zad (Kd.R (Kd.int .i64) 2 wc w.heap.size (fun k_ => some k_ ≠ ((.slice (some A) u.length W) : Value).ownBlock ∧ some k_ ≠ (u9 : Value).ownBlock) (.slice (some ay) q.length aT) q) ∧ Zad (Kd.R (Kd.int .i64) 2 wc w.heap.size (fun k_ => some k_ ≠ ((.slice (some A) u.length W) : Value).ownBlock ∧ some k_ ≠ ((.slice (some ay) q.length aT) : Value).ownBlock) u9 ad) ∧ Zad (Kd.R Kd.bool 4 wc w.heap.size (fun _ => True) aq B) ∧ Zad (Kd.S (Kd.slice 2 (Kd.int .i64)) 33 wc w.heap.size (fun k_ => some k_ ≠ ((.slice (some A) u.length W) : Value).ownBlock ∧ some k_ ≠ ((.slice (some ay) q.length aT) : Value).ownBlock ∧ some k_ ≠ (u9 : Value).ownBlock) ar s) ∧ Zad (wc.heap[G]? = some (.cells #[.int .i64 y, .int .i64 z, (.slice ak O.length ab), (.slice (some a9) x.length ac)] 63 (0, 0))) ∧ Zad (wc.heap[T]? = some (.cells #[.int .i64 0, .int .i64 0, (.slice none 0 0), (.slice none 0 0)] 63 (0, 0))) ∧ Zad (wc.heap[aa]? = some (mobj (Value.int .i64) (Value.int .i64) I)) ∧ Zad (wc.heap[P]? = some (.cells #[.int .i64 y, .int .i64 0, aq, ar] 63 (0, 0))) ∧ Zad (Below w.heap.size w wc))
      case first =>
       have H := eD.out
       clear eD
       by_cases cS : (rd (Zah x (rd q v)) J) < 0
       ·rw [if_pos cS] at H
        have bx := dT cS
        clear cS
        (first | rw [bx] | (simp only [i64_w, i32_w]; rw [bx]) | skip)
        have H' := mA H
        clear H
        go_wp2
        go_meet
        case rel => exact ⟨_, (true), (eW), H', ⟨by have := bA.out; have := bB.out; first | omega | exact Nat.le_refl _⟩, ⟨rP D.out⟩, ⟨rP E.out⟩, ⟨rP U.out⟩, ⟨rP d.out⟩, ⟨sP c.out⟩, ⟨bP a.out⟩, ⟨bP l.out⟩, ⟨bP r.out⟩, ⟨bP m.out⟩, ⟨bW⟩⟩
       rw [if_neg cS] at H
       have bx := dF cS
       clear cS
       (first | rw [bx] | (simp only [i64_w, i32_w]; rw [bx]) | skip)
       by_cases es : 0 ≤ (rd (Zah x (rd q v)) J); rotate_left
       ·rw [if_neg es] at H
        exact absurd H (by simp)
       rw [if_pos es] at H
       have fV := dT es
       clear es
       by_cases et : (rd (Zah x (rd q v)) J) < (u.length : Int); rotate_left
       ·rw [if_neg et] at H
        exact absurd H (by simp)
       rw [if_pos et] at H
       have fW := dT et
       clear et
       have H' := mA H
       clear H
       have dE : 0 ≤ ((rd (Zah x (rd q v)) J) : Int) := ofD
       have dG : (rd (Zah x (rd q v)) J) < (u.length : Int) := ofD
       obtain ⟨fX, hf, fk⟩ := zO (zK D.out).2.2 (rd (Zah x (rd q v)) J) dE dG
       obtain rfl : A = fX := (by injection hf)
       replace dE := eq_true dE
       replace dG := eq_true dG
       go_wp2
       go_meet
       case rel => exact ⟨_, (decide ((rd u (rd (Zah x (rd q v)) J)) < 0)), (eW), H', ⟨by have := bA.out; have := bB.out; first | omega | exact Nat.le_refl _⟩, ⟨rP D.out⟩, ⟨rP E.out⟩, ⟨rP U.out⟩, ⟨rP d.out⟩, ⟨sP c.out⟩, ⟨bP a.out⟩, ⟨bP l.out⟩, ⟨bP r.out⟩, ⟨bP m.out⟩, ⟨bW⟩⟩
      case rest =>
       clear eD
       try clear c1
       try clear c2
       try clear p2
       try clear c3
       try clear eu
       try clear p3
       try clear q3
       try clear hx3
       try clear c4
       try clear ev
       try clear p4
       try clear q4
       try clear hx4
       try clear c5
       try clear q5
       try clear c6
       try clear c8
       try clear eA
       try clear c9
       try clear c11
       try clear c24
       try clear c27
       try clear c28
       try clear c29
       try clear cG
       try clear du
       try clear c35
       try clear c36
       try clear c37
       try clear p38
       try clear q38
       try clear hx38
       try clear cR
       try clear eY
       try clear p39
       try clear q39
       try clear hx39
       try clear el
       try clear fP
       try clear em
       try clear fQ
       try clear p41
       try clear q41
       try clear hx41
       try clear en
       try clear fR
       try clear p42
       try clear q42
       try clear hx42
       try clear eo
       try clear fS
       try clear ep
       try clear fT
       try clear er
       try clear fU
       try clear cS
       try clear bx
       try clear es
       try clear fV
       try clear et
       try clear fW
       try clear bS
       try clear bT
       try clear bU
       try clear bV
       try clear b1
       try clear b2
       try clear b3
       try clear b4
       try clear ce
       try clear cf
       try clear cg
       try clear ch
       try clear cn
       try clear co
       try clear cp
       try clear cq
       try clear c0
       try clear da
       try clear db
       try clear dc
       try clear bX
       try clear bY
       try clear bZ
       try clear b0
       try clear b5
       try clear b6
       try clear b7
       try clear b8
       try clear ci
       try clear cj
       try clear ck
       try clear cm
       try clear cr
       try clear ct
       try clear cu
       try clear cv
       try clear dd
       try clear de
       try clear df
       try clear dg
       try clear a3
       try clear bf
       try clear cx
       try clear a4
       try clear a5
       try clear fk
       try clear p2
       try clear p3
       try clear p38
       try clear ba
       try clear b9
       try clear dy
       try clear dA
       try clear dC
       try clear dE
       try clear q3
       try clear q38
       try clear bb
       try clear ca
       try clear dz
       try clear dB
       try clear dD
       try clear dG
       try clear q5
       obtain ⟨kq, bM, rfl, HA, cy, D, E, U, d, c, a, l, r, m, HB⟩ := hcut
       cases kq with
       | zero => exact absurd HA.out (by simp [Zaj.j2])
       | succ eE =>
        have H := HA.out
        clear HA
        simp only [Zaj.j2] at H
        by_cases e0 : bM = true
        ·subst e0
         rw [if_pos rfl] at H
         obtain ⟨bD, dH⟩ : ∃ y_ : List Int, y_ = (([(-1)] : List Int)) := ⟨_, rfl⟩
         replace H := bsm dH H
         have e1 := mA dH
         clear dH
         by_cases e2 : ad.length + bD.length < 17592186044416; rotate_left
         ·rw [if_neg e2] at H
          exact absurd H (by simp)
         rw [if_pos e2] at H
         have fY := mA e2
         clear e2
         obtain ⟨hh, dI⟩ : ∃ y_ : List Int, y_ = (ad ++ bD) := ⟨_, rfl⟩
         rw [← dI] at H
         have fZ := mA dI
         clear dI
         have H' := mA H
         clear H
         go_wp2_with (first | ((with_reducible refine Zap (N := 74) rfl ?_); refine yS (Kd.int .i64) _ 2 ?hg (N := 74) ?hd (xs := ([(-1)] : List Int)) (inner := [.int .i64 (-1)]) (ok := fun _ => True) (okp := fun _ => True) ?hr ?hp (fun _ hk => hk) trivial (Below.refl _ _) (Nat.le_refl _) (by simp) ?_; (case hd => rfl); (case hg => rfl); (case hr => first | (go_simp; done) | (go_simp; rfl)); (case hp => exact (Reps.one (show Kd.M (Kd.int .i64) _ _ _ (-1) [.int .i64 (-1)] from rfl) (Reps.none _ _))); intro iZ jd bg hb hg_ hnew_; clear hg_ hnew_; (first | rw [← e1.out] at bg | (simp only [Int.reduceToNat] at bg; rw [← e1.out] at bg)); replace d := mA (zM (rP d.out) hb); replace c := mA (yK (sP c.out) (zT bg) hb); have bN := mA (zV (yA (yA (yA bg (zN (rP D.out))) (zN (rP E.out))) (zN (rP U.out))) (Zan (bW))); replace D := mA (zZ (rP D.out) (zT bg) hb); replace E := mA (zZ (rP E.out) (zT bg) hb); replace U := mA (zZ (rP U.out) (zT bg) hb); replace a := mA (blkB a.out hb); replace l := mA (blkB l.out hb); replace r := mA (blkB r.out hb); replace m := mA (blkB m.out hb); replace HB := mA (Zaf (bW) hb); clear hb bg; obtain ⟨dJ, dK, hj⟩ := zP bN.out; subst hj) | ((with_reducible refine Zbp (b := .append) (xs := #[.tmp 73, .tmp 74]) rfl ?_); at_builtin; refine xO (Kd.int .i64) (w0 := w) w.heap.size rfl (.tmp 73) (.tmp 74) 33 2 (.int .i64 0) 8 rfl Try.underlying33 info2 rfl (by decide) (by omega) u9 ad bD _ _ _ (fun k_ => some k_ ≠ (.slice (some A) u.length W : Value).ownBlock ∧ some k_ ≠ (.slice (some ay) q.length aT : Value).ownBlock ∧ some k_ ≠ (.slice dJ bD.length dK : Value).ownBlock) (fun _ => False) rfl rfl ?aO ?aR (fun _ _ h => h) (fun _ h => h.elim) ?aF ?aB ?aS ?aL ?_; (case aR => exact cP ((zK bN.out).2.2)); (case aB => exact (bW)); (case aF => exact (fun k_ hk => ⟨zY (zN (rP D.out)) k_ hk, zY (zN (rP E.out)) k_ hk, zY (zN (rP bN.out)) k_ hk⟩)); (case aO => exact (by (with_reducible repeat (first | apply zD | apply zE | apply zA)); exact zC U.out (fun _ hk => ⟨hk.1.1, ⟨hk.1.2, hk.2⟩⟩))); (case aS => exact (Zan (bW))); (case aL => have := fY.out; omega); intro i0 je ho hb hg hat; rw [← fZ.out] at ho; replace D := mA (zU (ok := (fun k_ => some k_ ≠ (.slice (some ay) q.length aT : Value).ownBlock ∧ some k_ ≠ (.slice dJ bD.length dK : Value).ownBlock)) (by (with_reducible repeat (first | apply zD | apply zE | apply zA)); exact zC D.out (fun _ hk => ⟨⟨hk.1.1, hk.2⟩, hk.1.2⟩)) hg hat); replace E := mA (zU (ok := (fun k_ => some k_ ≠ (.slice (some A) u.length W : Value).ownBlock ∧ some k_ ≠ (.slice dJ bD.length dK : Value).ownBlock)) (by (with_reducible repeat (first | apply zD | apply zE | apply zA)); exact zC E.out (fun _ hk => ⟨⟨hk.1.1, hk.2⟩, hk.1.2⟩)) hg hat); replace d := mA (yH (rP d.out) (yV (rP U.out)) (by decide) hg); replace c := mA (xD (ok := (fun k_ => some k_ ≠ (.slice (some A) u.length W : Value).ownBlock ∧ some k_ ≠ (.slice (some ay) q.length aT : Value).ownBlock ∧ some k_ ≠ (.slice dJ bD.length dK : Value).ownBlock)) (by (with_reducible repeat (first | apply zI | apply zJ | apply zG)); exact zF c.out (fun _ hk => ⟨⟨hk.1.1, ⟨hk.1.2.1, hk.2⟩⟩, hk.1.2.2⟩)) hg hat); replace a := mA (Zaq (g := G) (o := .cells #[.int .i64 y, .int .i64 z, .slice ak O.length ab, .slice (some a9) x.length ac] 63 (0, 0)) (bP a.out) hg (zQ U.out a.out (by decide))); replace l := mA (Zaq (g := T) (o := .cells #[.int .i64 0, .int .i64 0, .slice none 0 0, .slice none 0 0] 63 (0, 0)) (bP l.out) hg (zQ U.out l.out (by decide))); replace r := mA (Zaq (g := aa) (o := mobj (Value.int .i64) (Value.int .i64) I) (bP r.out) hg (Kd.R_nem U.out r.out)); replace m := mA (Zaq (g := P) (o := .cells #[.int .i64 y, .int .i64 0, aq, ar] 63 (0, 0)) (bP m.out) hg (zQ U.out m.out (by decide))); replace bN := mA (zU (ok := (fun k_ => some k_ ≠ (.slice (some A) u.length W : Value).ownBlock ∧ some k_ ≠ (.slice (some ay) q.length aT : Value).ownBlock)) (by (with_reducible repeat (first | apply zD | apply zE | apply zA)); exact zC bN.out (fun _ hk => ⟨⟨hk.1.1.2, hk.1.2⟩, hk.2⟩)) hg hat); replace HB := mA (hb); have f0 := mA (ho); clear U ho hb hg hat))
         go_roundg eE
         case measure => have := bA.out; have := bB.out; have := cy.out; omega
         case rel => exact ⟨(q), (hh), (wrap64 (J + 1)), (I), (eW), H', ⟨by have := bA.out; have := bB.out; have := cy.out; omega⟩, ⟨by (with_reducible repeat (first | apply zD | apply zE | apply zA)); exact zC D.out (fun _ hk => ⟨hk.1.1, hk.2⟩)⟩, ⟨by (with_reducible repeat (first | apply zD | apply zE | apply zA)); exact zC E.out (fun _ hk => ⟨hk.1.1, hk.2⟩)⟩, ⟨by (with_reducible repeat (first | apply zD | apply zE | apply zA)); exact zC f0.out (fun _ hk => ⟨hk.1, hk.2.1⟩)⟩, ⟨rP d.out⟩, ⟨by (with_reducible repeat (first | apply zI | apply zJ | apply zG)); exact zF c.out (fun _ hk => ⟨hk.1.1, ⟨hk.1.2.1, hk.2⟩⟩)⟩, ⟨bP a.out⟩, ⟨bP l.out⟩, ⟨bP r.out⟩, ⟨bP m.out⟩, ⟨bW⟩⟩
        replace e0 := Bool.eq_false_iff.mpr e0
        subst e0
        rw [iF] at H
        by_cases e3 : 0 ≤ (rd (Zah x (rd q v)) J); rotate_left
        ·rw [if_neg e3] at H
         exact absurd H (by simp)
        rw [if_pos e3] at H
        have iC := dT e3
        clear e3
        by_cases e4 : (rd (Zah x (rd q v)) J) < (u.length : Int); rotate_left
        ·rw [if_neg e4] at H
         exact absurd H (by simp)
        rw [if_pos e4] at H
        have iD := dT e4
        clear e4
        by_cases dk : (mhas I (rd u (rd (Zah x (rd q v)) J)) = true)
        ·rw [if_pos dk] at H
         have f1 : mhas I (rd u (rd (Zah x (rd q v)) J)) = true := dk
         clear dk
         obtain ⟨bF, dL⟩ : ∃ y_ : List Int, y_ = (([mget 0 I (rd u (rd (Zah x (rd q v)) J))] : List Int)) := ⟨_, rfl⟩
         replace H := bsm dL H
         have e5 := mA dL
         clear dL
         by_cases e6 : ad.length + bF.length < 17592186044416; rotate_left
         ·rw [if_neg e6] at H
          exact absurd H (by simp)
         rw [if_pos e6] at H
         have f2 := mA e6
         clear e6
         obtain ⟨hl, dM⟩ : ∃ y_ : List Int, y_ = (ad ++ bF) := ⟨_, rfl⟩
         rw [← dM] at H
         have f3 := mA dM
         clear dM
         have H' := mA H
         clear H
         have bG : 0 ≤ ((rd (Zah x (rd q v)) J) : Int) := ofD
         have bH : (rd (Zah x (rd q v)) J) < (u.length : Int) := ofD
         obtain ⟨dN, eF, fl⟩ := zO (zK D.out).2.2 (rd (Zah x (rd q v)) J) bG bH
         obtain rfl : A = dN := (by injection eF)
         replace bG := eq_true bG
         replace bH := eq_true bH
         go_wp2_with (first | ((with_reducible refine Zap (N := 82) rfl ?_); refine mgetS (eK := (Value.int .i64)) (eV := (Value.int .i64)) (g := aa) (L := I) 0 (rd u (rd (Zah x (rd q v)) J)) (mkey_int .i64) (bP r.out) Try.underlying104 Try.underlying2 (Try.zeroValue2 _) ?_) | ((with_reducible refine Zap (N := 101) rfl ?_); refine yS (Kd.int .i64) _ 2 ?hg (N := 101) ?hd (xs := ([mget 0 I (rd u (rd (Zah x (rd q v)) J))] : List Int)) (inner := [.int .i64 (mget 0 I (rd u (rd (Zah x (rd q v)) J)))]) (ok := fun _ => True) (okp := fun _ => True) ?hr ?hp (fun _ hk => hk) trivial (Below.refl _ _) (Nat.le_refl _) (by simp) ?_; (case hd => rfl); (case hg => rfl); (case hr => first | (go_simp; done) | (go_simp; rfl)); (case hp => exact (Reps.one (show Kd.M (Kd.int .i64) _ _ _ (mget 0 I (rd u (rd (Zah x (rd q v)) J))) [.int .i64 (mget 0 I (rd u (rd (Zah x (rd q v)) J)))] from rfl) (Reps.none _ _))); intro i1 jf bh hb hg_ hnew_; clear hg_ hnew_; (first | rw [← e5.out] at bh | (simp only [Int.reduceToNat] at bh; rw [← e5.out] at bh)); replace d := mA (zM (rP d.out) hb); replace c := mA (yK (sP c.out) (zT bh) hb); have bO := mA (zV (yA (yA (yA bh (zN (rP D.out))) (zN (rP E.out))) (zN (rP U.out))) (Zan (bW))); replace D := mA (zZ (rP D.out) (zT bh) hb); replace E := mA (zZ (rP E.out) (zT bh) hb); replace U := mA (zZ (rP U.out) (zT bh) hb); replace a := mA (blkB a.out hb); replace l := mA (blkB l.out hb); replace r := mA (blkB r.out hb); replace m := mA (blkB m.out hb); replace HB := mA (Zaf (bW) hb); clear hb bh; obtain ⟨dO, dP, hm⟩ := zP bO.out; subst hm) | ((with_reducible refine Zbp (b := .append) (xs := #[.tmp 99, .tmp 101]) rfl ?_); at_builtin; refine xO (Kd.int .i64) (w0 := w) w.heap.size rfl (.tmp 99) (.tmp 101) 33 2 (.int .i64 0) 8 rfl Try.underlying33 info2 rfl (by decide) (by omega) u9 ad bF _ _ _ (fun k_ => some k_ ≠ (.slice (some A) u.length W : Value).ownBlock ∧ some k_ ≠ (.slice (some ay) q.length aT : Value).ownBlock ∧ some k_ ≠ (.slice dO bF.length dP : Value).ownBlock) (fun _ => False) rfl rfl ?aO ?aR (fun _ _ h => h) (fun _ h => h.elim) ?aF ?aB ?aS ?aL ?_; (case aR => exact cP ((zK bO.out).2.2)); (case aB => exact (bW)); (case aF => exact (fun k_ hk => ⟨zY (zN (rP D.out)) k_ hk, zY (zN (rP E.out)) k_ hk, zY (zN (rP bO.out)) k_ hk⟩)); (case aO => exact (by (with_reducible repeat (first | apply zD | apply zE | apply zA)); exact zC U.out (fun _ hk => ⟨hk.1.1, ⟨hk.1.2, hk.2⟩⟩))); (case aS => exact (Zan (bW))); (case aL => have := f2.out; omega); intro i2 w64 ho hb hg hat; rw [← f3.out] at ho; replace D := mA (zU (ok := (fun k_ => some k_ ≠ (.slice (some ay) q.length aT : Value).ownBlock ∧ some k_ ≠ (.slice dO bF.length dP : Value).ownBlock)) (by (with_reducible repeat (first | apply zD | apply zE | apply zA)); exact zC D.out (fun _ hk => ⟨⟨hk.1.1, hk.2⟩, hk.1.2⟩)) hg hat); replace E := mA (zU (ok := (fun k_ => some k_ ≠ (.slice (some A) u.length W : Value).ownBlock ∧ some k_ ≠ (.slice dO bF.length dP : Value).ownBlock)) (by (with_reducible repeat (first | apply zD | apply zE | apply zA)); exact zC E.out (fun _ hk => ⟨⟨hk.1.1, hk.2⟩, hk.1.2⟩)) hg hat); replace d := mA (yH (rP d.out) (yV (rP U.out)) (by decide) hg); replace c := mA (xD (ok := (fun k_ => some k_ ≠ (.slice (some A) u.length W : Value).ownBlock ∧ some k_ ≠ (.slice (some ay) q.length aT : Value).ownBlock ∧ some k_ ≠ (.slice dO bF.length dP : Value).ownBlock)) (by (with_reducible repeat (first | apply zI | apply zJ | apply zG)); exact zF c.out (fun _ hk => ⟨⟨hk.1.1, ⟨hk.1.2.1, hk.2⟩⟩, hk.1.2.2⟩)) hg hat); replace a := mA (Zaq (g := G) (o := .cells #[.int .i64 y, .int .i64 z, .slice ak O.length ab, .slice (some a9) x.length ac] 63 (0, 0)) (bP a.out) hg (zQ U.out a.out (by decide))); replace l := mA (Zaq (g := T) (o := .cells #[.int .i64 0, .int .i64 0, .slice none 0 0, .slice none 0 0] 63 (0, 0)) (bP l.out) hg (zQ U.out l.out (by decide))); replace r := mA (Zaq (g := aa) (o := mobj (Value.int .i64) (Value.int .i64) I) (bP r.out) hg (Kd.R_nem U.out r.out)); replace m := mA (Zaq (g := P) (o := .cells #[.int .i64 y, .int .i64 0, aq, ar] 63 (0, 0)) (bP m.out) hg (zQ U.out m.out (by decide))); replace bO := mA (zU (ok := (fun k_ => some k_ ≠ (.slice (some A) u.length W : Value).ownBlock ∧ some k_ ≠ (.slice (some ay) q.length aT : Value).ownBlock)) (by (with_reducible repeat (first | apply zD | apply zE | apply zA)); exact zC bO.out (fun _ hk => ⟨⟨hk.1.1.2, hk.1.2⟩, hk.2⟩)) hg hat); replace HB := mA (hb); have f4 := mA (ho); clear U ho hb hg hat))
         go_roundg eE
         case measure => have := bA.out; have := bB.out; have := cy.out; omega
         case rel => exact ⟨(q), (hl), (wrap64 (J + 1)), (I), (eW), H', ⟨by have := bA.out; have := bB.out; have := cy.out; omega⟩, ⟨by (with_reducible repeat (first | apply zD | apply zE | apply zA)); exact zC D.out (fun _ hk => ⟨hk.1.1, hk.2⟩)⟩, ⟨by (with_reducible repeat (first | apply zD | apply zE | apply zA)); exact zC E.out (fun _ hk => ⟨hk.1.1, hk.2⟩)⟩, ⟨by (with_reducible repeat (first | apply zD | apply zE | apply zA)); exact zC f4.out (fun _ hk => ⟨hk.1, hk.2.1⟩)⟩, ⟨rP d.out⟩, ⟨by (with_reducible repeat (first | apply zI | apply zJ | apply zG)); exact zF c.out (fun _ hk => ⟨hk.1.1, ⟨hk.1.2.1, hk.2⟩⟩)⟩, ⟨bP a.out⟩, ⟨bP l.out⟩, ⟨bP r.out⟩, ⟨bP m.out⟩, ⟨bW⟩⟩
        rw [if_neg dk] at H
        have f1 : mhas I (rd u (rd (Zah x (rd q v)) J)) = false := by simpa using dk
        clear dk
        obtain ⟨a0, dQ⟩ : ∃ y_ : List Int, y_ = (([(rd (Zah x (rd q v)) J)] : List Int)) := ⟨_, rfl⟩
        replace H := bsm dQ H
        have e7 := mA dQ
        clear dQ
        by_cases e8 : q.length + a0.length < 17592186044416; rotate_left
        ·rw [if_neg e8] at H
         exact absurd H (by simp)
        rw [if_pos e8] at H
        have f5 := mA e8
        clear e8
        obtain ⟨hn, dR⟩ : ∃ y_ : List Int, y_ = (q ++ a0) := ⟨_, rfl⟩
        rw [← dR] at H
        have f6 := mA dR
        clear dR
        obtain ⟨bs, dS⟩ : ∃ y_ : List Int, y_ = (([(q.length : Int)] : List Int)) := ⟨_, rfl⟩
        replace H := bsm dS H
        have e9 := mA dS
        clear dS
        by_cases fa : ad.length + bs.length < 17592186044416; rotate_left
        ·rw [if_neg fa] at H
         exact absurd H (by simp)
        rw [if_pos fa] at H
        have f7 := mA fa
        clear fa
        obtain ⟨hq, dU⟩ : ∃ y_ : List Int, y_ = (ad ++ bs) := ⟨_, rfl⟩
        rw [← dU] at H
        have f8 := mA dU
        clear dU
        have H' := mA H
        clear H
        have bG : 0 ≤ ((rd (Zah x (rd q v)) J) : Int) := ofD
        have bH : (rd (Zah x (rd q v)) J) < (u.length : Int) := ofD
        obtain ⟨dN, eF, fl⟩ := zO (zK D.out).2.2 (rd (Zah x (rd q v)) J) bG bH
        obtain rfl : A = dN := (by injection eF)
        replace bG := eq_true bG
        replace bH := eq_true bH
        go_wp2_with (first | ((with_reducible refine Zap (N := 82) rfl ?_); refine mgetS (eK := (Value.int .i64)) (eV := (Value.int .i64)) (g := aa) (L := I) 0 (rd u (rd (Zah x (rd q v)) J)) (mkey_int .i64) (bP r.out) Try.underlying104 Try.underlying2 (Try.zeroValue2 _) ?_; have eG : 0 ≤ ((rd (Zah x (rd q v)) J) : Int) := ofD; have eH : (rd (Zah x (rd q v)) J) < (u.length : Int) := ofD; obtain ⟨f9, hs, hL⟩ := zO (zK D.out).2.2 (rd (Zah x (rd q v)) J) eG eH; obtain rfl : A = f9 := (by injection hs); replace eG := eq_true eG; replace eH := eq_true eH) | ((with_reducible refine gate_mset (t := 104) rfl ?_); refine msetS (eK := (Value.int .i64)) (eV := (Value.int .i64)) (g := aa) (L := I) (rd u (rd (Zah x (rd q v)) J)) (q.length : Int) (mkey_int .i64) (bP r.out) Try.underlying104 Try.underlying2 ?_; intro jg hbk hg; replace D := mA (Kd.R_mset (rP D.out) (bP r.out) hg); replace E := mA (Kd.R_mset (rP E.out) (bP r.out) hg); replace U := mA (Kd.R_mset (rP U.out) (bP r.out) hg); replace d := mA (Kd.R_mset (rP d.out) (bP r.out) hg); replace c := mA (Kd.S_mset (sP c.out) (bP r.out) hg); replace a := mA (Zaq (g := G) (o := .cells #[.int .i64 y, .int .i64 z, .slice ak O.length ab, .slice (some a9) x.length ac] 63 (0, 0)) (bP a.out) hg (fun e_ => ai.out (Option.some.inj e_))); replace l := mA (Zaq (g := T) (o := .cells #[.int .i64 0, .int .i64 0, .slice none 0 0, .slice none 0 0] 63 (0, 0)) (bP l.out) hg (fun e_ => an.out (Option.some.inj e_))); replace r := mA (hbk); replace m := mA (Zaq (g := P) (o := .cells #[.int .i64 y, .int .i64 0, aq, ar] 63 (0, 0)) (bP m.out) hg (fun e_ => aX.out (Option.some.inj e_))); replace HB := mA ((fun h_ => Below.grown h_ hg h_.size (fun k_ e_ => by injection e_ with e_; rw [← e_]; exact a2.out)) (bW)); clear hg hbk) | ((with_reducible refine Zap (N := 97) rfl ?_); refine yS (Kd.int .i64) _ 2 ?hg (N := 97) ?hd (xs := ([(rd (Zah x (rd q v)) J)] : List Int)) (inner := [.int .i64 (rd (Zah x (rd q v)) J)]) (ok := fun _ => True) (okp := fun _ => True) ?hr ?hp (fun _ hk => hk) trivial (Below.refl _ _) (Nat.le_refl _) (by simp) ?_; (case hd => rfl); (case hg => rfl); (case hr => first | (go_simp; done) | (go_simp; rfl)); (case hp => exact (Reps.one (show Kd.M (Kd.int .i64) _ _ _ (rd (Zah x (rd q v)) J) [.int .i64 (rd (Zah x (rd q v)) J)] from rfl) (Reps.none _ _))); intro i3 jh bi hb hg_ hnew_; clear hg_ hnew_; (first | rw [← e7.out] at bi | (simp only [Int.reduceToNat] at bi; rw [← e7.out] at bi)); replace d := mA (zM (rP d.out) hb); replace c := mA (yK (sP c.out) (zT bi) hb); have aQ := mA (zV (yA (yA (yA bi (zN (rP D.out))) (zN (rP E.out))) (zN (rP U.out))) (Zan (bW))); replace D := mA (zZ (rP D.out) (zT bi) hb); replace E := mA (zZ (rP E.out) (zT bi) hb); replace U := mA (zZ (rP U.out) (zT bi) hb); replace a := mA (blkB a.out hb); replace l := mA (blkB l.out hb); replace r := mA (blkB r.out hb); replace m := mA (blkB m.out hb); replace HB := mA (Zaf (bW) hb); clear hb bi; obtain ⟨bj, bk, ht⟩ := zP aQ.out; subst ht) | ((with_reducible refine Zbp (b := .append) (xs := #[.tmp 95, .tmp 97]) rfl ?_); at_builtin; refine xO (Kd.int .i64) (w0 := w) w.heap.size rfl (.tmp 95) (.tmp 97) 33 2 (.int .i64 0) 8 rfl Try.underlying33 info2 rfl (by decide) (by omega) (.slice (some ay) q.length aT) q a0 _ _ _ (fun k_ => some k_ ≠ (.slice (some A) u.length W : Value).ownBlock ∧ some k_ ≠ (u9 : Value).ownBlock ∧ some k_ ≠ (.slice bj a0.length bk : Value).ownBlock) (fun _ => False) rfl rfl ?aO ?aR (fun _ _ h => h) (fun _ h => h.elim) ?aF ?aB ?aS ?aL ?_; (case aR => exact cP ((zK aQ.out).2.2)); (case aB => exact (bW)); (case aF => exact (fun k_ hk => ⟨zY (zN (rP D.out)) k_ hk, zY (zN (rP U.out)) k_ hk, zY (zN (rP aQ.out)) k_ hk⟩)); (case aO => exact (by (with_reducible repeat (first | apply zD | apply zE | apply zA)); exact zC E.out (fun _ hk => ⟨hk.1.1, ⟨hk.1.2, hk.2⟩⟩))); (case aS => exact (Zan (bW))); (case aL => have := f5.out; omega); intro cT ji ho hb hg hat; rw [← f6.out] at ho; replace D := mA (zU (ok := (fun k_ => some k_ ≠ (u9 : Value).ownBlock ∧ some k_ ≠ (.slice bj a0.length bk : Value).ownBlock)) (by (with_reducible repeat (first | apply zD | apply zE | apply zA)); exact zC D.out (fun _ hk => ⟨⟨hk.1.2, hk.2⟩, hk.1.1⟩)) hg hat); replace U := mA (zU (ok := (fun k_ => some k_ ≠ (.slice (some A) u.length W : Value).ownBlock ∧ some k_ ≠ (.slice bj a0.length bk : Value).ownBlock)) (by (with_reducible repeat (first | apply zD | apply zE | apply zA)); exact zC U.out (fun _ hk => ⟨⟨hk.1.1, hk.2⟩, hk.1.2⟩)) hg hat); replace d := mA (yH (rP d.out) (yV (rP E.out)) (by decide) hg); replace c := mA (xD (ok := (fun k_ => some k_ ≠ (.slice (some A) u.length W : Value).ownBlock ∧ some k_ ≠ (u9 : Value).ownBlock ∧ some k_ ≠ (.slice bj a0.length bk : Value).ownBlock)) (by (with_reducible repeat (first | apply zI | apply zJ | apply zG)); exact zF c.out (fun _ hk => ⟨⟨hk.1.1, ⟨hk.1.2.2, hk.2⟩⟩, hk.1.2.1⟩)) hg hat); replace a := mA (Zaq (g := G) (o := .cells #[.int .i64 y, .int .i64 z, .slice ak O.length ab, .slice (some a9) x.length ac] 63 (0, 0)) (bP a.out) hg (zQ E.out a.out (by decide))); replace l := mA (Zaq (g := T) (o := .cells #[.int .i64 0, .int .i64 0, .slice none 0 0, .slice none 0 0] 63 (0, 0)) (bP l.out) hg (zQ E.out l.out (by decide))); replace r := mA (Zaq (g := aa) (o := mobj (Value.int .i64) (Value.int .i64) (mset I (rd u (rd (Zah x (rd q v)) J)) (q.length : Int))) (bP r.out) hg (Kd.R_nem E.out r.out)); replace m := mA (Zaq (g := P) (o := .cells #[.int .i64 y, .int .i64 0, aq, ar] 63 (0, 0)) (bP m.out) hg (zQ E.out m.out (by decide))); replace aQ := mA (zU (ok := (fun k_ => some k_ ≠ (.slice (some A) u.length W : Value).ownBlock ∧ some k_ ≠ (u9 : Value).ownBlock)) (by (with_reducible repeat (first | apply zD | apply zE | apply zA)); exact zC aQ.out (fun _ hk => ⟨⟨hk.1.1.2, hk.2⟩, hk.1.2⟩)) hg hat); replace HB := mA (hb); have bl := mA (ho); clear E ho hb hg hat) | ((with_reducible refine Zap (N := 101) rfl ?_); refine yS (Kd.int .i64) _ 2 ?hg (N := 101) ?hd (xs := ([(q.length : Int)] : List Int)) (inner := [.int .i64 (q.length : Int)]) (ok := fun _ => True) (okp := fun _ => True) ?hr ?hp (fun _ hk => hk) trivial (Below.refl _ _) (Nat.le_refl _) (by simp) ?_; (case hd => rfl); (case hg => rfl); (case hr => first | (go_simp; done) | (go_simp; rfl)); (case hp => exact (Reps.one (show Kd.M (Kd.int .i64) _ _ _ (q.length : Int) [.int .i64 (q.length : Int)] from rfl) (Reps.none _ _))); intro i4 jj bd hb hg_ hnew_; clear hg_ hnew_; (first | rw [← e9.out] at bd | (simp only [Int.reduceToNat] at bd; rw [← e9.out] at bd)); replace d := mA (zM (rP d.out) hb); replace c := mA (yK (sP c.out) (zT bd) hb); have bQ := mA (zV (yA (yA (yA (yA bd (zN (rP D.out))) (zN (rP U.out))) (zN (rP aQ.out))) (zN (rP bl.out))) (Zan (bW))); replace D := mA (zZ (rP D.out) (zT bd) hb); replace U := mA (zZ (rP U.out) (zT bd) hb); replace aQ := mA (zZ (rP aQ.out) (zT bd) hb); replace bl := mA (zZ (rP bl.out) (zT bd) hb); replace a := mA (blkB a.out hb); replace l := mA (blkB l.out hb); replace r := mA (blkB r.out hb); replace m := mA (blkB m.out hb); replace HB := mA (Zaf (bW) hb); clear hb bd; obtain ⟨cU, cV, hu⟩ := zP bQ.out; subst hu) | ((with_reducible refine Zbp (b := .append) (xs := #[.tmp 99, .tmp 101]) rfl ?_); at_builtin; refine xO (Kd.int .i64) (w0 := w) w.heap.size rfl (.tmp 99) (.tmp 101) 33 2 (.int .i64 0) 8 rfl Try.underlying33 info2 rfl (by decide) (by omega) u9 ad bs _ _ _ (fun k_ => some k_ ≠ (.slice (some A) u.length W : Value).ownBlock ∧ some k_ ≠ (.slice bj a0.length bk : Value).ownBlock ∧ some k_ ≠ (cT : Value).ownBlock ∧ some k_ ≠ (.slice cU bs.length cV : Value).ownBlock) (fun _ => False) rfl rfl ?aO ?aR (fun _ _ h => h) (fun _ h => h.elim) ?aF ?aB ?aS ?aL ?_; (case aR => exact cP ((zK bQ.out).2.2)); (case aB => exact (bW)); (case aF => exact (fun k_ hk => ⟨zY (zN (rP D.out)) k_ hk, zY (zN (rP aQ.out)) k_ hk, zY (zN (rP bl.out)) k_ hk, zY (zN (rP bQ.out)) k_ hk⟩)); (case aO => exact (by (with_reducible repeat (first | apply zD | apply zE | apply zA)); exact zC U.out (fun _ hk => ⟨hk.1.1.1, ⟨hk.1.1.2, ⟨hk.1.2, hk.2⟩⟩⟩))); (case aS => exact (Zan (bW))); (case aL => have := f7.out; omega); intro i5 jk ho hb hg hat; rw [← f8.out] at ho; replace D := mA (zU (ok := (fun k_ => some k_ ≠ (.slice bj a0.length bk : Value).ownBlock ∧ some k_ ≠ (cT : Value).ownBlock ∧ some k_ ≠ (.slice cU bs.length cV : Value).ownBlock)) (by (with_reducible repeat (first | apply zD | apply zE | apply zA)); exact zC D.out (fun _ hk => ⟨⟨hk.1.1.2, ⟨hk.1.2, hk.2⟩⟩, hk.1.1.1⟩)) hg hat); replace d := mA (yH (rP d.out) (yV (rP U.out)) (by decide) hg); replace c := mA (xD (ok := (fun k_ => some k_ ≠ (.slice (some A) u.length W : Value).ownBlock ∧ some k_ ≠ (.slice bj a0.length bk : Value).ownBlock ∧ some k_ ≠ (cT : Value).ownBlock ∧ some k_ ≠ (.slice cU bs.length cV : Value).ownBlock)) (by (with_reducible repeat (first | apply zI | apply zJ | apply zG)); exact zF c.out (fun _ hk => ⟨⟨hk.1.1.1, ⟨hk.1.1.2.2, ⟨hk.1.2, hk.2⟩⟩⟩, hk.1.1.2.1⟩)) hg hat); replace a := mA (Zaq (g := G) (o := .cells #[.int .i64 y, .int .i64 z, .slice ak O.length ab, .slice (some a9) x.length ac] 63 (0, 0)) (bP a.out) hg (zQ U.out a.out (by decide))); replace l := mA (Zaq (g := T) (o := .cells #[.int .i64 0, .int .i64 0, .slice none 0 0, .slice none 0 0] 63 (0, 0)) (bP l.out) hg (zQ U.out l.out (by decide))); replace r := mA (Zaq (g := aa) (o := mobj (Value.int .i64) (Value.int .i64) (mset I (rd u (rd (Zah x (rd q v)) J)) (q.length : Int))) (bP r.out) hg (Kd.R_nem U.out r.out)); replace m := mA (Zaq (g := P) (o := .cells #[.int .i64 y, .int .i64 0, aq, ar] 63 (0, 0)) (bP m.out) hg (zQ U.out m.out (by decide))); replace aQ := mA (zU (ok := (fun k_ => some k_ ≠ (.slice (some A) u.length W : Value).ownBlock ∧ some k_ ≠ (cT : Value).ownBlock ∧ some k_ ≠ (.slice cU bs.length cV : Value).ownBlock)) (by (with_reducible repeat (first | apply zD | apply zE | apply zA)); exact zC aQ.out (fun _ hk => ⟨⟨hk.1.1.1, ⟨hk.1.2, hk.2⟩⟩, hk.1.1.2⟩)) hg hat); replace bl := mA (zU (ok := (fun k_ => some k_ ≠ (.slice (some A) u.length W : Value).ownBlock ∧ some k_ ≠ (.slice bj a0.length bk : Value).ownBlock ∧ some k_ ≠ (.slice cU bs.length cV : Value).ownBlock)) (by (with_reducible repeat (first | apply zD | apply zE | apply zA)); exact zC bl.out (fun _ hk => ⟨⟨hk.1.1, ⟨hk.1.2.2, hk.2⟩⟩, hk.1.2.1⟩)) hg hat); replace bQ := mA (zU (ok := (fun k_ => some k_ ≠ (.slice (some A) u.length W : Value).ownBlock ∧ some k_ ≠ (.slice bj a0.length bk : Value).ownBlock ∧ some k_ ≠ (cT : Value).ownBlock)) (by (with_reducible repeat (first | apply zD | apply zE | apply zA)); exact zC bQ.out (fun _ hk => ⟨⟨hk.1.1.1.2, ⟨hk.1.2, hk.2⟩⟩, hk.1.1.2⟩)) hg hat); replace HB := mA (hb); have ga := mA (ho); clear U ho hb hg hat))
        go_roundg eE
        case measure => have := bA.out; have := bB.out; have := cy.out; omega
        case rel => exact ⟨(hn), (hq), (wrap64 (J + 1)), (mset I (rd u (rd (Zah x (rd q v)) J)) (q.length : Int)), (eW), H', ⟨by have := bA.out; have := bB.out; have := cy.out; omega⟩, ⟨by (with_reducible repeat (first | apply zD | apply zE | apply zA)); exact zC D.out (fun _ hk => ⟨hk.1.2.1, hk.2⟩)⟩, ⟨by (with_reducible repeat (first | apply zD | apply zE | apply zA)); exact zC bl.out (fun _ hk => ⟨hk.1.1, hk.2⟩)⟩, ⟨by (with_reducible repeat (first | apply zD | apply zE | apply zA)); exact zC ga.out (fun _ hk => ⟨hk.1, hk.2.2.1⟩)⟩, ⟨rP d.out⟩, ⟨by (with_reducible repeat (first | apply zI | apply zJ | apply zG)); exact zF c.out (fun _ hk => ⟨hk.1.1, ⟨hk.1.2.2.1, hk.2⟩⟩)⟩, ⟨bP a.out⟩, ⟨bP l.out⟩, ⟨bP r.out⟩, ⟨bP m.out⟩, ⟨bW⟩⟩
     rw [if_neg cR] at H
     have eY := dF cR
     clear cR
     obtain ⟨bu, dV⟩ : ∃ y_ : List (List Int), y_ = (([ad] : List (List Int))) := ⟨_, rfl⟩
     replace H := bsm dV H
     have cO := mA dV
     clear dV
     by_cases fb : s.length + bu.length < 5864062014805; rotate_left
     ·rw [if_neg fb] at H
      exact absurd H (by simp)
     rw [if_pos fb] at H
     have dW := mA fb
     clear fb
     obtain ⟨bm, dX⟩ : ∃ y_ : List (List Int), y_ = (s ++ bu) := ⟨_, rfl⟩
     rw [← dX] at H
     have dY := mA dX
     clear dX
     by_cases fc : 0 ≤ v; rotate_left
     ·rw [if_neg fc] at H
      exact absurd H (by simp)
     rw [if_pos fc] at H
     have iE := dT fc
     clear fc
     by_cases fd : v < (q.length : Int); rotate_left
     ·rw [if_neg fd] at H
      exact absurd H (by simp)
     rw [if_pos fd] at H
     have iG := dT fd
     clear fd
     by_cases fe : 0 ≤ (rd q v); rotate_left
     ·rw [if_neg fe] at H
      exact absurd H (by simp)
     rw [if_pos fe] at H
     have iH := dT fe
     clear fe
     by_cases ff : (rd q v) < (O.length : Int); rotate_left
     ·rw [if_neg ff] at H
      exact absurd H (by simp)
     rw [if_pos ff] at H
     have iI := dT ff
     clear ff
     obtain ⟨cz, dZ⟩ : ∃ y_ : List Bool, y_ = (([rdOf false O (rd q v)] : List Bool)) := ⟨_, rfl⟩
     replace H := bsm dZ H
     have bz := mA dZ
     clear dZ
     by_cases fg : B.length + cz.length < 140737488355328; rotate_left
     ·rw [if_neg fg] at H
      exact absurd H (by simp)
     rw [if_pos fg] at H
     have gb := mA fg
     clear fg
     obtain ⟨cA, d0⟩ : ∃ y_ : List Bool, y_ = (B ++ cz) := ⟨_, rfl⟩
     rw [← d0] at H
     have gc := mA d0
     clear d0
     have H' := mA H
     clear H
     obtain ⟨af, ag, hv⟩ := yD c.out
     subst hv
     obtain ⟨aA, aC, hw⟩ := zP d.out
     subst hw
     try go_wp2
     replace D := mA (zA D.out)
     replace E := mA (zA E.out)
     replace U := mA (zA U.out)
     replace d := mA (zA d.out)
     replace c := mA (zG c.out)
     replace a := mA (Zab a.out)
     replace l := mA (Zab l.out)
     replace r := mA (Zab r.out)
     replace m := mA (Zab m.out)
     replace HB := mA (Za3 HB.out)
     obtain ⟨i6, au, fw⟩ := zP E.out
     (first | subst fw | (injection fw with al aE am; have aG := al.symm; have aH := am.symm; clear al aE am; subst aG; subst aH))
     have eI : 0 ≤ (v : Int) := ofD
     have eJ : v < (q.length : Int) := ofD
     obtain ⟨ae, hx, dl⟩ := zO (zK E.out).2.2 v eI eJ
     cases hx
     replace eI := eq_true eI
     replace eJ := eq_true eJ
     have eL : 0 ≤ ((rd q v) : Int) := ofD
     have eM : (rd q v) < (O.length : Int) := ofD
     obtain ⟨aI, hy, a6⟩ := yC cH.out (rd q v) eL eM
     (try rw [← ey.out] at a6)
     have aD := a6
     cases hy
     replace a6 := (HB.out.cell (wB w a6)).trans a6
     replace eL := eq_true eL
     replace eM := eq_true eM
     obtain ⟨bn, bo, fx⟩ := zP U.out
     (first | subst fx | (injection fx with al aE am; have aG := al.symm; have aH := am.symm; clear al aE am; subst aG; subst aH))
     refine start_ (n := 21) (S := fun w' => w'.cell? ⟨P, 0, none⟩ = some (.int .i64 y) ∧ w'.cell? ⟨P, 1, none⟩ = some (.int .i64 0) ∧ w'.cell? ⟨P, 2, none⟩ = some (.slice aA B.length aC) ∧ w'.cell? ⟨P, 3, none⟩ = some (.slice af s.length ag) ∧ w'.cell? ⟨G, 0, none⟩ = some (.int .i64 y) ∧ w'.cell? ⟨G, 1, none⟩ = some (.int .i64 z) ∧ w'.cell? ⟨G, 2, none⟩ = some (.slice (some aI) O.length ab) ∧ w'.cell? ⟨G, 3, none⟩ = some (.slice ah x.length ac) ∧ w'.cell? (ae.add (v).toNat) = some (.int .i64 (rd q v)) ∧ w'.cell? (aI.add ((rd q v)).toNat) = some (.bool (rdOf false O (rd q v)))) (ds := [16, 18, 20]) #[false, false, false, false, false, false, false, false, false, false, false, false, false, false, false, false, false, false, false, false, false] (by kernel_rfl) rfl rfl ⟨bc m 0, bc m 1, bc m 2, bc m 3, bc a 0, bc a 1, bc a 2, bc a 3, dl, (cB HB aD :)⟩ (fun hHeld => ?_); refine Zc0 Zaj.tab24 Zaj.bits24 (fun HT_ HW_ => ?_)
     generalize wr.drew = w85 at D E U d c a l r m HB dl a6 hHeld ⊢
     refine Zav (i := 0) (N := some 104) (Zaw HT_.out (by kernel_rfl)) ?_
     refine Zav (i := 2) (N := some 106) (Zaw HT_.out (by kernel_rfl)) ?_
     refine Zav (i := 5) (N := some 109) (Zaw HT_.out (by kernel_rfl)) ?_
     refine Zav (i := 7) (N := some 111) (Zaw HT_.out (by kernel_rfl)) ?_
     refine Zav (i := 9) (N := some 113) (Zaw HT_.out (by kernel_rfl)) ?_
     refine Zav (i := 10) (N := some 114) (Zaw HT_.out (by kernel_rfl)) ?_
     refine Zav (i := 11) (N := some 115) (Zaw HT_.out (by kernel_rfl)) ?_
     refine Zbt (i := 1) (N := some 105) (Zbb HT_.out HW_.out (by kernel_rfl)) hHeld ?_
     refine Zbt (i := 6) (N := some 110) (Zbb HT_.out HW_.out (by kernel_rfl)) hHeld ?_
     refine Zbt (i := 8) (N := some 112) (Zbb HT_.out HW_.out (by kernel_rfl)) hHeld ?_
     refine Zbt (i := 12) (N := some 116) (Zbb HT_.out HW_.out (by kernel_rfl)) hHeld ?_
     refine Zav (i := 13) (N := some 117) (Zaw HT_.out (by kernel_rfl)) ?_
     refine Zbt (i := 14) (N := some 118) (Zbb HT_.out HW_.out (by kernel_rfl)) hHeld ?_
     refine join_ (σ := Value × Value × Value) 4 #[true, true, true, true, true, true, true, true, true, true, true, true, true, true, true, true, false, true, false, false, false] (fun s_ => [(107, s_.1), (108, s_.2.1), (119, s_.2.2), (121, .pointer (some ⟨P, 3, none⟩))]) (fun s_ w' => (w'.cell? ⟨P, 0, none⟩ = some (.int .i64 y) ∧ w'.cell? ⟨P, 1, none⟩ = some (.int .i64 0) ∧ w'.cell? ⟨P, 2, none⟩ = some (.slice aA B.length aC) ∧ w'.cell? ⟨P, 3, none⟩ = some (.slice af s.length ag) ∧ w'.cell? ⟨G, 0, none⟩ = some (.int .i64 y) ∧ w'.cell? ⟨G, 1, none⟩ = some (.int .i64 z) ∧ w'.cell? ⟨G, 2, none⟩ = some (.slice (some aI) O.length ab) ∧ w'.cell? ⟨G, 3, none⟩ = some (.slice ah x.length ac) ∧ w'.cell? (ae.add (v).toNat) = some (.int .i64 (rd q v)) ∧ w'.cell? (aI.add ((rd q v)).toNat) = some (.bool (rdOf false O (rd q v)))) ∧ (Kd.S (Kd.slice 2 (Kd.int .i64)) 33 w' w.heap.size (fun k_ => some k_ ≠ (.slice (some A) u.length W : Value).ownBlock ∧ some k_ ≠ (.slice (some ae) q.length au : Value).ownBlock) s_.2.1 bm) ∧ (Kd.R Kd.bool 4 w' w.heap.size (fun k_ => some k_ ≠ (.slice aA B.length aC : Value).ownBlock) s_.2.2 cz) ∧ (Kd.R (Kd.int .i64) 2 w' w.heap.size (fun k_ => some k_ ≠ (.slice (some ae) q.length au : Value).ownBlock) (.slice (some A) u.length W) u) ∧ (Kd.R Kd.bool 4 w' w.heap.size (fun k_ => some k_ ≠ (s_.2.2 : Value).ownBlock) (.slice aA B.length aC) B) ∧ (Kd.R (Kd.int .i64) 2 w' w.heap.size (fun k_ => some k_ ≠ (.slice (some A) u.length W : Value).ownBlock) (.slice (some ae) q.length au) q) ∧ (w'.heap[G]? = some (.cells #[.int .i64 y, .int .i64 z, .slice (some aI) O.length ab, .slice ah x.length ac] 63 (0, 0))) ∧ (w'.heap[T]? = some (.cells #[.int .i64 0, .int .i64 0, .slice none 0 0, .slice none 0 0] 63 (0, 0))) ∧ (w'.heap[aa]? = some (mobj (Value.int .i64) (Value.int .i64) I)) ∧ (w'.heap[P]? = some (.cells #[.int .i64 y, .int .i64 0, .slice aA B.length aC, .slice af s.length ag] 63 (0, 0))) ∧ (Below w.heap.size w w')) ?_ ?_
     rotate_left
     ·intro hCont
      refine two_ (i := 3) (j := 15) (Ni := some 107) (Nj := some 119) #[true, true, true, true, false, true, true, true, true, true, true, true, true, true, true, false, false, false, false, false, false] #[true, true, true, false, false, true, true, true, true, true, true, true, true, true, true, true, false, false, false, false, false] rfl rfl rfl rfl (two_of HT_.out (by kernel_rfl)) (by decide) (by decide) (fun K hK => ?_) (fun K hK => ?_); rotate_left
      ·skip
       refine xG Kd.bool _ 4 ?hg (N := 119) ?hd (xs := ([rdOf false O (rd q v)] : List Bool)) (inner := [.bool (rdOf false O (rd q v))]) (ok := fun _ => True) (okp := fun _ => True) ?hr ?hp (fun _ hk => hk) trivial (Below.refl _ _) (Nat.le_refl _) (by simp) ?_; (case hd => rfl); (case hg => rfl); (case hr => first | (go_simp; done) | (go_simp; rfl)); (case hp => exact (Reps.one (show Kd.M Kd.bool _ _ _ (rdOf false O (rd q v)) [.bool (rdOf false O (rd q v))] from rfl) (Reps.none _ _)))
       intro bv gl cC hb hg_ hnew_
       have aN := (hb.cell (World.block_lt_of_cell? _ _ (hHeld.2.2.2.2.2.2.2.2.1))).trans (hHeld.2.2.2.2.2.2.2.2.1)
       clear hg_ hnew_
       (first | rw [← bz.out] at cC | (simp only [Int.reduceToNat] at cC; rw [← bz.out] at cC))
       replace D := mA (zM (rP D.out) hb)
       replace E := mA (zM (rP E.out) hb)
       replace U := mA (zM (rP U.out) hb)
       replace c := mA (zS (sP c.out) hb)
       have av := mA (zV (yA cC (zN (rP d.out))) (Zan (bW)))
       replace d := mA (zZ (rP d.out) (zT cC) hb)
       replace a := mA (blkB a.out hb)
       replace l := mA (blkB l.out hb)
       replace r := mA (blkB r.out hb)
       replace m := mA (blkB m.out hb)
       replace HB := mA (Zaf (bW) hb)
       clear hb cC
       obtain ⟨bI, bJ, fy⟩ := zP U.out
       (first | subst fy | (injection fy with al aE am; have aG := al.symm; have aH := am.symm; clear al aE am; subst aG; subst aH))
       refine hK.out _ _ ⟨bc m 0, bc m 1, bc m 2, bc m 3, bc a 0, bc a 1, bc a 2, bc a 3, aN, (cB HB aD :)⟩ (fun hHeld => ?_)
       clear hK K
       refine putS 119 ?_
       refine one_ (i := 3) (N := some 107) #[true, true, true, true, false, true, true, true, true, true, true, true, true, true, true, true, false, false, false, false, false] rfl rfl (Zb4 HT_.out (by kernel_rfl)) (by decide) (fun K hK => ?_)
       obtain ⟨ax, a7⟩ : ∃ n_, Zad (n_ = gl.heap.size) := ⟨_, ⟨rfl⟩⟩
       refine Kd.S_lit1_step (Kd.slice 2 (Kd.int .i64)) w.heap.size 33 ?hg (N := 107) ?hd (xs := ([ad] : List (List Int))) (inner := [.slice bI ad.length bJ]) (ok := (fun k_ => (some k_ = (.slice bI ad.length bJ : Value).ownBlock ∨ ax ≤ k_) ∧ some k_ ≠ (.slice (some A) u.length W : Value).ownBlock ∧ some k_ ≠ (.slice (some ae) q.length au : Value).ownBlock ∧ some k_ ≠ (.slice af s.length ag : Value).ownBlock)) (okp := (fun k_ => (some k_ = (.slice bI ad.length bJ : Value).ownBlock ∨ ax ≤ k_) ∧ some k_ ≠ (.slice (some A) u.length W : Value).ownBlock ∧ some k_ ≠ (.slice (some ae) q.length au : Value).ownBlock ∧ some k_ ≠ (.slice af s.length ag : Value).ownBlock)) ?hr ?hp (fun _ hk => hk) ((show ∀ k_, gl.heap.size ≤ k_ → (fun k_ => (some k_ = (.slice bI ad.length bJ : Value).ownBlock ∨ ax ≤ k_) ∧ some k_ ≠ (.slice (some A) u.length W : Value).ownBlock ∧ some k_ ≠ (.slice (some ae) q.length au : Value).ownBlock ∧ some k_ ≠ (.slice af s.length ag : Value).ownBlock) k_ from fun k_ hk => ⟨.inr (Nat.le_trans (Nat.le_of_eq a7.out) hk), ⟨zY (zN (rP D.out)) k_ hk, zY (zN (rP E.out)) k_ hk, zY (yO (sP c.out)) k_ hk⟩⟩) _ (Nat.le_refl _)) (Below.refl _ _) ((Zan (bW))) (by simp) ?_; (case hd => rfl); (case hg => rfl); (case hr => first | (go_simp; done) | (go_simp; rfl)); (case hp => exact ⟨_, rfl, rfl, Kd.M_row (by (with_reducible repeat (first | apply zD | apply zE | apply zA)); exact (zC (ok' := (fun k_ => (some k_ = (.slice bI ad.length bJ : Value).ownBlock ∨ ax ≤ k_) ∧ some k_ ≠ (.slice (some A) u.length W : Value).ownBlock ∧ some k_ ≠ (.slice (some ae) q.length au : Value).ownBlock ∧ some k_ ≠ (.slice af s.length ag : Value).ownBlock)) (Kd.R_tight2 rfl (xJ (U.out) (yJ c.out) (by decide))) (fun k_ hk => ⟨.inl hk.1, ⟨hk.2.1.1, ⟨hk.2.1.2, hk.2.2⟩⟩⟩)))⟩)
       intro fz gm a1 hb hg_ hnew_
       have aN := (hb.cell (World.block_lt_of_cell? _ _ (hHeld.2.2.2.2.2.2.2.2.1))).trans (hHeld.2.2.2.2.2.2.2.2.1)
       have hown_ := own_new hnew_; clear hg_ hnew_
       (first | rw [← cO.out] at a1 | (simp only [Int.reduceToNat] at a1; rw [← cO.out] at a1))
       replace D := mA (zM (rP D.out) hb)
       replace E := mA (zM (rP E.out) hb)
       replace d := mA (zM (rP d.out) hb)
       replace c := mA (Kd.S_elderI (sP c.out) hown_ hb a7)
       replace av := mA (zM (rP av.out) hb)
       have aJ := mA (a1)
       replace a := mA (blkB a.out hb)
       replace l := mA (blkB l.out hb)
       replace r := mA (blkB r.out hb)
       replace m := mA (blkB m.out hb)
       replace HB := mA (Zaf (bW) hb)
       clear U hb a1 hown_ a7
       obtain ⟨eN, eO, cW⟩ := yD aJ.out
       (first | subst cW | (injection cW with al aE am; have aG := al.symm; have aH := am.symm; clear al aE am; subst aG; subst aH))
       refine hK.out _ _ ⟨bc m 0, bc m 1, bc m 2, bc m 3, bc a 0, bc a 1, bc a 2, bc a 3, aN, (cB HB aD :)⟩ (fun hHeld => ?_)
       clear hK K
       refine putS 107 ?_
       refine one_ (i := 4) (N := some 108) #[true, true, true, true, true, true, true, true, true, true, true, true, true, true, true, true, false, false, false, false, false] rfl rfl (Zb4 HT_.out (by kernel_rfl)) (by decide) (fun K hK => ?_)
       refine Kd.S_append_rows_step (Kd.slice 2 (Kd.int .i64)) (w0 := w) w.heap.size (by rfl) (.tmp 105) (.tmp 107) 22 33 (.slice none 0 0) 24 rfl Try.underlying22 info33 rfl (by decide) (by omega) (.slice af s.length ag) s bu _ _ _ (fun k_ => some k_ ≠ (.slice (some A) u.length W : Value).ownBlock ∧ some k_ ≠ (.slice (some ae) q.length au : Value).ownBlock) (fun k_ => (some k_ = (.slice bI ad.length bJ : Value).ownBlock ∨ ax ≤ k_) ∧ (((fun k_ => some k_ ≠ (.slice (some A) u.length W : Value).ownBlock ∧ some k_ ≠ (.slice (some ae) q.length au : Value).ownBlock)) k_ ∧ some k_ ≠ (.slice af s.length ag : Value).ownBlock)) rfl rfl ?aO ?aR (fun _ hk => hk.2) ?aF ?aB ?aS ?aL ?_
       (case aR => exact (by (with_reducible repeat (first | apply zI | apply zJ | apply zG)); exact zF (ok' := (fun k_ => (some k_ = (.slice bI ad.length bJ : Value).ownBlock ∨ ax ≤ k_) ∧ (((fun k_ => some k_ ≠ (.slice (some A) u.length W : Value).ownBlock ∧ some k_ ≠ (.slice (some ae) q.length au : Value).ownBlock)) k_ ∧ some k_ ≠ (.slice af s.length ag : Value).ownBlock))) (aJ.out) (fun k_ hk => ⟨hk.1, ⟨⟨hk.2.1, hk.2.2.1⟩, hk.2.2.2⟩⟩)))
       (case aB => exact (bW))
       (case aF => exact (fun k_ hk => ⟨zY (zN (rP D.out)) k_ hk, zY (zN (rP E.out)) k_ hk⟩))
       (case aO => exact (by (with_reducible repeat (first | apply zI | apply zJ | apply zG)); exact zF (c.out) (fun k_ hk => ⟨⟨hk.1.1.1, hk.1.1.2.1⟩, fun e_ => e_.1.elim (fun h_ => hk.1.1.2.2 h_) (fun h_ => ltge (hk.2) h_)⟩)))
       (case aS => exact (Zan (bW)))
       (case aL => have := dW.out; omega)
       intro bK gn ho hb hg hat
       have aN := cell_grown hg (hHeld.2.2.2.2.2.2.2.2.1) (by first | (rw [add_block]; exact (fun e_ => (((Kd.S_R c.out).1 _ e_.symm).1.1.2.1) rfl)) | (show some (Addr.add _ _).block ≠ _; rw [add_block]; exact (fun e_ => (((Kd.S_R c.out).1 _ e_.symm).1.1.2.1) rfl)) | exact (fun e_ => (((Kd.S_R c.out).1 _ e_.symm).1.1.2.1) rfl))
       rw [← dY.out] at ho
       replace D := mA (yH (rP D.out) (yJ (sP c.out)) (by decide) hg)
       replace E := mA (yH (rP E.out) (yJ (sP c.out)) (by decide) hg)
       replace d := mA (yH (rP d.out) (yJ (sP c.out)) (by decide) hg)
       replace a := mA (Zaq (g := G) (o := .cells #[.int .i64 y, .int .i64 z, .slice (some aI) O.length ab, .slice ah x.length ac] 63 (0, 0)) (bP a.out) hg (yU c.out a.out (by decide)))
       replace l := mA (Zaq (g := T) (o := .cells #[.int .i64 0, .int .i64 0, .slice none 0 0, .slice none 0 0] 63 (0, 0)) (bP l.out) hg (yU c.out l.out (by decide)))
       replace r := mA (Zaq (g := aa) (o := mobj (Value.int .i64) (Value.int .i64) I) (bP r.out) hg (Kd.S_nem c.out r.out))
       replace m := mA (Zaq (g := P) (o := .cells #[.int .i64 y, .int .i64 0, .slice aA B.length aC, .slice af s.length ag] 63 (0, 0)) (bP m.out) hg (yU c.out m.out (by decide)))
       replace av := mA (yH (rP av.out) (yJ (sP c.out)) (by decide) hg)
       replace HB := mA (hb)
       have aK := mA (ho)
       clear c aJ ho hb hg hat
       refine hK.out _ _ ⟨bc m 0, bc m 1, bc m 2, bc m 3, bc a 0, bc a 1, bc a 2, bc a 3, aN, (cB HB aD :)⟩ (fun hHeld => ?_)
       clear hK K
       refine putS 108 ?_
       refine Zav (i := 17) (N := some 121) (Zaw HT_.out (by kernel_rfl)) ?_
       exact norm_ (by simp only [putAll, Act.put, List.setIfInBounds_toArray, List.set_cons_zero, List.set_cons_succ]) (hCont (.slice eN bu.length eO, bK, bv) _ ⟨hHeld, (sP aK.out), (by (with_reducible repeat (first | apply zD | apply zE | apply zA)); exact zC av.out (fun _ hk => hk.2)), (by (with_reducible repeat (first | apply zD | apply zE | apply zA)); exact zC D.out (fun _ hk => hk.1)), (by (with_reducible repeat (first | apply zD | apply zE | apply zA)); exact zC d.out (fun _ hk => hk.2)), (by (with_reducible repeat (first | apply zD | apply zE | apply zA)); exact zC E.out (fun _ hk => hk.1)), (bP a.out), (bP l.out), (bP r.out), (bP m.out), (bW)⟩)
      skip
      obtain ⟨ax, a7⟩ : ∃ n_, Zad (n_ = w85.heap.size) := ⟨_, ⟨rfl⟩⟩
      refine Kd.S_lit1_step (Kd.slice 2 (Kd.int .i64)) w.heap.size 33 ?hg (N := 107) ?hd (xs := ([ad] : List (List Int))) (inner := [.slice bn ad.length bo]) (ok := (fun k_ => (some k_ = (.slice bn ad.length bo : Value).ownBlock ∨ ax ≤ k_) ∧ some k_ ≠ (.slice (some A) u.length W : Value).ownBlock ∧ some k_ ≠ (.slice (some ae) q.length au : Value).ownBlock ∧ some k_ ≠ (.slice af s.length ag : Value).ownBlock)) (okp := (fun k_ => (some k_ = (.slice bn ad.length bo : Value).ownBlock ∨ ax ≤ k_) ∧ some k_ ≠ (.slice (some A) u.length W : Value).ownBlock ∧ some k_ ≠ (.slice (some ae) q.length au : Value).ownBlock ∧ some k_ ≠ (.slice af s.length ag : Value).ownBlock)) ?hr ?hp (fun _ hk => hk) ((show ∀ k_, w85.heap.size ≤ k_ → (fun k_ => (some k_ = (.slice bn ad.length bo : Value).ownBlock ∨ ax ≤ k_) ∧ some k_ ≠ (.slice (some A) u.length W : Value).ownBlock ∧ some k_ ≠ (.slice (some ae) q.length au : Value).ownBlock ∧ some k_ ≠ (.slice af s.length ag : Value).ownBlock) k_ from fun k_ hk => ⟨.inr (Nat.le_trans (Nat.le_of_eq a7.out) hk), ⟨zY (zN (rP D.out)) k_ hk, zY (zN (rP E.out)) k_ hk, zY (yO (sP c.out)) k_ hk⟩⟩) _ (Nat.le_refl _)) (Below.refl _ _) ((Zan (bW))) (by simp) ?_; (case hd => rfl); (case hg => rfl); (case hr => first | (go_simp; done) | (go_simp; rfl)); (case hp => exact ⟨_, rfl, rfl, Kd.M_row (by (with_reducible repeat (first | apply zD | apply zE | apply zA)); exact (zC (ok' := (fun k_ => (some k_ = (.slice bn ad.length bo : Value).ownBlock ∨ ax ≤ k_) ∧ some k_ ≠ (.slice (some A) u.length W : Value).ownBlock ∧ some k_ ≠ (.slice (some ae) q.length au : Value).ownBlock ∧ some k_ ≠ (.slice af s.length ag : Value).ownBlock)) (Kd.R_tight2 rfl (xJ (U.out) (yJ c.out) (by decide))) (fun k_ hk => ⟨.inl hk.1, ⟨hk.2.1.1, ⟨hk.2.1.2, hk.2.2⟩⟩⟩)))⟩)
      intro fz jl cX hb hg_ hnew_
      have aN := (hb.cell (World.block_lt_of_cell? _ _ (hHeld.2.2.2.2.2.2.2.2.1))).trans (hHeld.2.2.2.2.2.2.2.2.1)
      have hown_ := own_new hnew_; clear hg_ hnew_
      (first | rw [← cO.out] at cX | (simp only [Int.reduceToNat] at cX; rw [← cO.out] at cX))
      replace D := mA (zM (rP D.out) hb)
      replace E := mA (zM (rP E.out) hb)
      replace d := mA (zM (rP d.out) hb)
      replace c := mA (Kd.S_elderI (sP c.out) hown_ hb a7)
      have aJ := mA (cX)
      replace a := mA (blkB a.out hb)
      replace l := mA (blkB l.out hb)
      replace r := mA (blkB r.out hb)
      replace m := mA (blkB m.out hb)
      replace HB := mA (Zaf (bW) hb)
      clear U hb cX hown_ a7
      obtain ⟨hz, hA, fA⟩ := yD aJ.out
      (first | subst fA | (injection fA with al aE am; have aG := al.symm; have aH := am.symm; clear al aE am; subst aG; subst aH))
      refine hK.out _ _ ⟨bc m 0, bc m 1, bc m 2, bc m 3, bc a 0, bc a 1, bc a 2, bc a 3, aN, (cB HB aD :)⟩ (fun hHeld => ?_)
      clear hK K
      refine putS 107 ?_
      refine two_ (i := 4) (j := 15) (Ni := some 108) (Nj := some 119) #[true, true, true, true, true, true, true, true, true, true, true, true, true, true, true, false, false, false, false, false, false] #[true, true, true, true, false, true, true, true, true, true, true, true, true, true, true, true, false, false, false, false, false] rfl rfl rfl rfl (two_of HT_.out (by kernel_rfl)) (by decide) (by decide) (fun K hK => ?_) (fun K hK => ?_)
      ·skip
       refine Kd.S_append_rows_step (Kd.slice 2 (Kd.int .i64)) (w0 := w) w.heap.size (by rfl) (.tmp 105) (.tmp 107) 22 33 (.slice none 0 0) 24 rfl Try.underlying22 info33 rfl (by decide) (by omega) (.slice af s.length ag) s bu _ _ _ (fun k_ => some k_ ≠ (.slice (some A) u.length W : Value).ownBlock ∧ some k_ ≠ (.slice (some ae) q.length au : Value).ownBlock) (fun k_ => (some k_ = (.slice bn ad.length bo : Value).ownBlock ∨ ax ≤ k_) ∧ (((fun k_ => some k_ ≠ (.slice (some A) u.length W : Value).ownBlock ∧ some k_ ≠ (.slice (some ae) q.length au : Value).ownBlock)) k_ ∧ some k_ ≠ (.slice af s.length ag : Value).ownBlock)) rfl rfl ?aO ?aR (fun _ hk => hk.2) ?aF ?aB ?aS ?aL ?_
       (case aR => exact (by (with_reducible repeat (first | apply zI | apply zJ | apply zG)); exact zF (ok' := (fun k_ => (some k_ = (.slice bn ad.length bo : Value).ownBlock ∨ ax ≤ k_) ∧ (((fun k_ => some k_ ≠ (.slice (some A) u.length W : Value).ownBlock ∧ some k_ ≠ (.slice (some ae) q.length au : Value).ownBlock)) k_ ∧ some k_ ≠ (.slice af s.length ag : Value).ownBlock))) (aJ.out) (fun k_ hk => ⟨hk.1, ⟨⟨hk.2.1, hk.2.2.1⟩, hk.2.2.2⟩⟩)))
       (case aB => exact (bW))
       (case aF => exact (fun k_ hk => ⟨zY (zN (rP D.out)) k_ hk, zY (zN (rP E.out)) k_ hk⟩))
       (case aO => exact (by (with_reducible repeat (first | apply zI | apply zJ | apply zG)); exact zF (c.out) (fun k_ hk => ⟨⟨hk.1.1.1, hk.1.1.2.1⟩, fun e_ => e_.1.elim (fun h_ => hk.1.1.2.2 h_) (fun h_ => ltge (hk.2) h_)⟩)))
       (case aS => exact (Zan (bW)))
       (case aL => have := dW.out; omega)
       intro bK gm ho hb hg hat
       have aN := cell_grown hg (hHeld.2.2.2.2.2.2.2.2.1) (by first | (rw [add_block]; exact (fun e_ => (((Kd.S_R c.out).1 _ e_.symm).1.1.2.1) rfl)) | (show some (Addr.add _ _).block ≠ _; rw [add_block]; exact (fun e_ => (((Kd.S_R c.out).1 _ e_.symm).1.1.2.1) rfl)) | exact (fun e_ => (((Kd.S_R c.out).1 _ e_.symm).1.1.2.1) rfl))
       rw [← dY.out] at ho
       replace D := mA (yH (rP D.out) (yJ (sP c.out)) (by decide) hg)
       replace E := mA (yH (rP E.out) (yJ (sP c.out)) (by decide) hg)
       replace d := mA (yH (rP d.out) (yJ (sP c.out)) (by decide) hg)
       replace a := mA (Zaq (g := G) (o := .cells #[.int .i64 y, .int .i64 z, .slice (some aI) O.length ab, .slice ah x.length ac] 63 (0, 0)) (bP a.out) hg (yU c.out a.out (by decide)))
       replace l := mA (Zaq (g := T) (o := .cells #[.int .i64 0, .int .i64 0, .slice none 0 0, .slice none 0 0] 63 (0, 0)) (bP l.out) hg (yU c.out l.out (by decide)))
       replace r := mA (Zaq (g := aa) (o := mobj (Value.int .i64) (Value.int .i64) I) (bP r.out) hg (Kd.S_nem c.out r.out))
       replace m := mA (Zaq (g := P) (o := .cells #[.int .i64 y, .int .i64 0, .slice aA B.length aC, .slice af s.length ag] 63 (0, 0)) (bP m.out) hg (yU c.out m.out (by decide)))
       replace HB := mA (hb)
       have aK := mA (ho)
       clear c aJ ho hb hg hat
       refine hK.out _ _ ⟨bc m 0, bc m 1, bc m 2, bc m 3, bc a 0, bc a 1, bc a 2, bc a 3, aN, (cB HB aD :)⟩ (fun hHeld => ?_)
       clear hK K
       refine putS 108 ?_
       refine Zav (i := 17) (N := some 121) (Zaw HT_.out (by kernel_rfl)) ?_
       refine one_ (i := 15) (N := some 119) #[true, true, true, true, true, true, true, true, true, true, true, true, true, true, true, true, false, true, false, false, false] rfl rfl (Zb4 HT_.out (by kernel_rfl)) (by decide) (fun K hK => ?_)
       refine xG Kd.bool _ 4 ?hg (N := 119) ?hd (xs := ([rdOf false O (rd q v)] : List Bool)) (inner := [.bool (rdOf false O (rd q v))]) (ok := fun _ => True) (okp := fun _ => True) ?hr ?hp (fun _ hk => hk) trivial (Below.refl _ _) (Nat.le_refl _) (by simp) ?_; (case hd => rfl); (case hg => rfl); (case hr => first | (go_simp; done) | (go_simp; rfl)); (case hp => exact (Reps.one (show Kd.M Kd.bool _ _ _ (rdOf false O (rd q v)) [.bool (rdOf false O (rd q v))] from rfl) (Reps.none _ _)))
       intro bv gn cD hb hg_ hnew_
       have aN := (hb.cell (World.block_lt_of_cell? _ _ (hHeld.2.2.2.2.2.2.2.2.1))).trans (hHeld.2.2.2.2.2.2.2.2.1)
       clear hg_ hnew_
       (first | rw [← bz.out] at cD | (simp only [Int.reduceToNat] at cD; rw [← bz.out] at cD))
       replace D := mA (zM (rP D.out) hb)
       replace E := mA (zM (rP E.out) hb)
       replace aK := mA (zS (sP aK.out) hb)
       have av := mA (zV (yA cD (zN (rP d.out))) (Zan (bW)))
       replace d := mA (zZ (rP d.out) (zT cD) hb)
       replace a := mA (blkB a.out hb)
       replace l := mA (blkB l.out hb)
       replace r := mA (blkB r.out hb)
       replace m := mA (blkB m.out hb)
       replace HB := mA (Zaf (bW) hb)
       clear hb cD
       refine hK.out _ _ ⟨bc m 0, bc m 1, bc m 2, bc m 3, bc a 0, bc a 1, bc a 2, bc a 3, aN, (cB HB aD :)⟩ (fun hHeld => ?_)
       clear hK K
       refine putS 119 ?_
       exact norm_ (by simp only [putAll, Act.put, List.setIfInBounds_toArray, List.set_cons_zero, List.set_cons_succ]) (hCont (.slice hz bu.length hA, bK, bv) _ ⟨hHeld, (sP aK.out), (by (with_reducible repeat (first | apply zD | apply zE | apply zA)); exact zC av.out (fun _ hk => hk.2)), (by (with_reducible repeat (first | apply zD | apply zE | apply zA)); exact zC D.out (fun _ hk => hk.1)), (by (with_reducible repeat (first | apply zD | apply zE | apply zA)); exact zC d.out (fun _ hk => hk.2)), (by (with_reducible repeat (first | apply zD | apply zE | apply zA)); exact zC E.out (fun _ hk => hk.1)), (bP a.out), (bP l.out), (bP r.out), (bP m.out), (bW)⟩)
      skip
      refine xG Kd.bool _ 4 ?hg (N := 119) ?hd (xs := ([rdOf false O (rd q v)] : List Bool)) (inner := [.bool (rdOf false O (rd q v))]) (ok := fun _ => True) (okp := fun _ => True) ?hr ?hp (fun _ hk => hk) trivial (Below.refl _ _) (Nat.le_refl _) (by simp) ?_; (case hd => rfl); (case hg => rfl); (case hr => first | (go_simp; done) | (go_simp; rfl)); (case hp => exact (Reps.one (show Kd.M Kd.bool _ _ _ (rdOf false O (rd q v)) [.bool (rdOf false O (rd q v))] from rfl) (Reps.none _ _)))
      intro bv gm a1 hb hg_ hnew_
      have aN := (hb.cell (World.block_lt_of_cell? _ _ (hHeld.2.2.2.2.2.2.2.2.1))).trans (hHeld.2.2.2.2.2.2.2.2.1)
      clear hg_ hnew_
      (first | rw [← bz.out] at a1 | (simp only [Int.reduceToNat] at a1; rw [← bz.out] at a1))
      replace D := mA (zM (rP D.out) hb)
      replace E := mA (zM (rP E.out) hb)
      replace c := mA (zS (sP c.out) hb)
      replace aJ := mA (zS (sP aJ.out) hb)
      have av := mA (zV (yA a1 (zN (rP d.out))) (Zan (bW)))
      replace d := mA (zZ (rP d.out) (zT a1) hb)
      replace a := mA (blkB a.out hb)
      replace l := mA (blkB l.out hb)
      replace r := mA (blkB r.out hb)
      replace m := mA (blkB m.out hb)
      replace HB := mA (Zaf (bW) hb)
      clear hb a1
      obtain ⟨eN, eO, cW⟩ := yD aJ.out
      (first | subst cW | (injection cW with al aE am; have aG := al.symm; have aH := am.symm; clear al aE am; subst aG; subst aH))
      refine hK.out _ _ ⟨bc m 0, bc m 1, bc m 2, bc m 3, bc a 0, bc a 1, bc a 2, bc a 3, aN, (cB HB aD :)⟩ (fun hHeld => ?_)
      clear hK K
      refine putS 119 ?_
      refine one_ (i := 4) (N := some 108) #[true, true, true, true, true, true, true, true, true, true, true, true, true, true, true, true, false, false, false, false, false] rfl rfl (Zb4 HT_.out (by kernel_rfl)) (by decide) (fun K hK => ?_)
      refine Kd.S_append_rows_step (Kd.slice 2 (Kd.int .i64)) (w0 := w) w.heap.size (by rfl) (.tmp 105) (.tmp 107) 22 33 (.slice none 0 0) 24 rfl Try.underlying22 info33 rfl (by decide) (by omega) (.slice af s.length ag) s bu _ _ _ (fun k_ => some k_ ≠ (.slice (some A) u.length W : Value).ownBlock ∧ some k_ ≠ (.slice (some ae) q.length au : Value).ownBlock) (fun k_ => (some k_ = (.slice bn ad.length bo : Value).ownBlock ∨ ax ≤ k_) ∧ (((fun k_ => some k_ ≠ (.slice (some A) u.length W : Value).ownBlock ∧ some k_ ≠ (.slice (some ae) q.length au : Value).ownBlock)) k_ ∧ some k_ ≠ (.slice af s.length ag : Value).ownBlock)) rfl rfl ?aO ?aR (fun _ hk => hk.2) ?aF ?aB ?aS ?aL ?_
      (case aR => exact (by (with_reducible repeat (first | apply zI | apply zJ | apply zG)); exact zF (ok' := (fun k_ => (some k_ = (.slice bn ad.length bo : Value).ownBlock ∨ ax ≤ k_) ∧ (((fun k_ => some k_ ≠ (.slice (some A) u.length W : Value).ownBlock ∧ some k_ ≠ (.slice (some ae) q.length au : Value).ownBlock)) k_ ∧ some k_ ≠ (.slice af s.length ag : Value).ownBlock))) (aJ.out) (fun k_ hk => ⟨hk.1, ⟨⟨hk.2.1, hk.2.2.1⟩, hk.2.2.2⟩⟩)))
      (case aB => exact (bW))
      (case aF => exact (fun k_ hk => ⟨zY (zN (rP D.out)) k_ hk, zY (zN (rP E.out)) k_ hk⟩))
      (case aO => exact (by (with_reducible repeat (first | apply zI | apply zJ | apply zG)); exact zF (c.out) (fun k_ hk => ⟨⟨hk.1.1.1, hk.1.1.2.1⟩, fun e_ => e_.1.elim (fun h_ => hk.1.1.2.2 h_) (fun h_ => ltge (hk.2) h_)⟩)))
      (case aS => exact (Zan (bW)))
      (case aL => have := dW.out; omega)
      intro bK gn ho hb hg hat
      have aN := cell_grown hg (hHeld.2.2.2.2.2.2.2.2.1) (by first | (rw [add_block]; exact (fun e_ => (((Kd.S_R c.out).1 _ e_.symm).1.1.2.1) rfl)) | (show some (Addr.add _ _).block ≠ _; rw [add_block]; exact (fun e_ => (((Kd.S_R c.out).1 _ e_.symm).1.1.2.1) rfl)) | exact (fun e_ => (((Kd.S_R c.out).1 _ e_.symm).1.1.2.1) rfl))
      rw [← dY.out] at ho
      replace D := mA (yH (rP D.out) (yJ (sP c.out)) (by decide) hg)
      replace E := mA (yH (rP E.out) (yJ (sP c.out)) (by decide) hg)
      replace d := mA (yH (rP d.out) (yJ (sP c.out)) (by decide) hg)
      replace a := mA (Zaq (g := G) (o := .cells #[.int .i64 y, .int .i64 z, .slice (some aI) O.length ab, .slice ah x.length ac] 63 (0, 0)) (bP a.out) hg (yU c.out a.out (by decide)))
      replace l := mA (Zaq (g := T) (o := .cells #[.int .i64 0, .int .i64 0, .slice none 0 0, .slice none 0 0] 63 (0, 0)) (bP l.out) hg (yU c.out l.out (by decide)))
      replace r := mA (Zaq (g := aa) (o := mobj (Value.int .i64) (Value.int .i64) I) (bP r.out) hg (Kd.S_nem c.out r.out))
      replace m := mA (Zaq (g := P) (o := .cells #[.int .i64 y, .int .i64 0, .slice aA B.length aC, .slice af s.length ag] 63 (0, 0)) (bP m.out) hg (yU c.out m.out (by decide)))
      replace av := mA (yH (rP av.out) (yJ (sP c.out)) (by decide) hg)
      replace HB := mA (hb)
      have aK := mA (ho)
      clear c aJ ho hb hg hat
      refine hK.out _ _ ⟨bc m 0, bc m 1, bc m 2, bc m 3, bc a 0, bc a 1, bc a 2, bc a 3, aN, (cB HB aD :)⟩ (fun hHeld => ?_)
      clear hK K
      refine putS 108 ?_
      refine Zav (i := 17) (N := some 121) (Zaw HT_.out (by kernel_rfl)) ?_
      exact norm_ (by simp only [putAll, Act.put, List.setIfInBounds_toArray, List.set_cons_zero, List.set_cons_succ]) (hCont (.slice eN bu.length eO, bK, bv) _ ⟨hHeld, (sP aK.out), (by (with_reducible repeat (first | apply zD | apply zE | apply zA)); exact zC av.out (fun _ hk => hk.2)), (by (with_reducible repeat (first | apply zD | apply zE | apply zA)); exact zC D.out (fun _ hk => hk.1)), (by (with_reducible repeat (first | apply zD | apply zE | apply zA)); exact zC d.out (fun _ hk => hk.2)), (by (with_reducible repeat (first | apply zD | apply zE | apply zA)); exact zC E.out (fun _ hk => hk.1)), (bP a.out), (bP l.out), (bP r.out), (bP m.out), (bW)⟩)
     rintro ⟨fz, bK, bv⟩ w94 ⟨hS_, d1, d2, d3, d4, d5, d6, d7, d8, d9, ea⟩
     have eb : Zad (Kd.S (Kd.slice 2 (Kd.int .i64)) 33 w94 w.heap.size (fun k_ => some k_ ≠ (.slice (some A) u.length W : Value).ownBlock ∧ some k_ ≠ (.slice (some ae) q.length au : Value).ownBlock) bK bm) := ⟨d1⟩
     have ec : Zad (Kd.R Kd.bool 4 w94 w.heap.size (fun k_ => some k_ ≠ (.slice aA B.length aC : Value).ownBlock) bv cz) := ⟨d2⟩
     have ed : Zad (Kd.R (Kd.int .i64) 2 w94 w.heap.size (fun k_ => some k_ ≠ (.slice (some ae) q.length au : Value).ownBlock) (.slice (some A) u.length W) u) := ⟨d3⟩
     have ee : Zad (Kd.R Kd.bool 4 w94 w.heap.size (fun k_ => some k_ ≠ (bv : Value).ownBlock) (.slice aA B.length aC) B) := ⟨d4⟩
     have ef : Zad (Kd.R (Kd.int .i64) 2 w94 w.heap.size (fun k_ => some k_ ≠ (.slice (some A) u.length W : Value).ownBlock) (.slice (some ae) q.length au) q) := ⟨d5⟩
     have eg : Zad (w94.heap[G]? = some (.cells #[.int .i64 y, .int .i64 z, .slice (some aI) O.length ab, .slice ah x.length ac] 63 (0, 0))) := ⟨d6⟩
     have eh : Zad (w94.heap[T]? = some (.cells #[.int .i64 0, .int .i64 0, .slice none 0 0, .slice none 0 0] 63 (0, 0))) := ⟨d7⟩
     have ei : Zad (w94.heap[aa]? = some (mobj (Value.int .i64) (Value.int .i64) I)) := ⟨d8⟩
     have ej : Zad (w94.heap[P]? = some (.cells #[.int .i64 y, .int .i64 0, .slice aA B.length aC, .slice af s.length ag] 63 (0, 0))) := ⟨d9⟩
     have ek : Zad (Below w.heap.size w w94) := ⟨ea⟩
     clear D E U d c a l r m HB d1 d2 d3 d4 d5 d6 d7 d8 d9 ea; have aK := eb; have av := ec; have D := ed; have d := ee; have E := ef; have a := eg; have l := eh; have r := ei; have m := ej; have HB := ek; clear eb ec ed ee ef eg eh ei ej ek
     have hHeld : w94.cell? ⟨P, 0, none⟩ = some (.int .i64 y) ∧ w94.cell? ⟨P, 1, none⟩ = some (.int .i64 0) ∧ w94.cell? ⟨P, 2, none⟩ = some (.slice aA B.length aC) ∧ w94.cell? ⟨P, 3, none⟩ = some (.slice af s.length ag) ∧ w94.cell? ⟨G, 0, none⟩ = some (.int .i64 y) ∧ w94.cell? ⟨G, 1, none⟩ = some (.int .i64 z) ∧ w94.cell? ⟨G, 2, none⟩ = some (.slice (some aI) O.length ab) ∧ w94.cell? ⟨G, 3, none⟩ = some (.slice ah x.length ac) ∧ w94.cell? (ae.add (v).toNat) = some (.int .i64 (rd q v)) ∧ w94.cell? (aI.add ((rd q v)).toNat) = some (.bool (rdOf false O (rd q v))) := hS_
     obtain ⟨hB, hC, fB⟩ := zP av.out
     (first | subst fB | (injection fB with al aE am; have aG := al.symm; have aH := am.symm; clear al aE am; subst aG; subst aH))
     refine norm_ (a' := ?_) ?_ ?_
     rotate_left
     ·simp only [putAll, Act.put, List.setIfInBounds_toArray, List.set_cons_zero, List.set_cons_succ]
      rfl
     refine last_ (i := 16) (N := some 120) #[true, true, true, true, true, true, true, true, true, true, true, true, true, true, true, true, true, true, false, false, false] rfl rfl (Zb4 HT_.out (by kernel_rfl)) (by decide) (fun K hK => ?_)
     refine xW Kd.bool (w0 := w) w.heap.size (by rfl) (.tmp 110) (.tmp 119) 61 4 (.bool false) 1 rfl Try.underlying61 info4 rfl (by decide) (by omega) (.slice aA B.length aC) B cz _ _ _ (fun k_ => some k_ ≠ (.slice hB cz.length hC : Value).ownBlock) (fun _ => False) rfl rfl ?aO ?aR (fun _ _ h => h) (fun _ h => h.elim) ?aF ?aB ?aS ?aL ?_
     (case aR => exact cP ((zK av.out).2.2))
     (case aB => exact (bW))
     (case aF => exact (fun k_ hk => zY (zN (rP av.out)) k_ hk))
     (case aO => exact (rP d.out))
     (case aS => exact (Zan (bW)))
     (case aL => have := gb.out; omega)
     intro i7 gp ho hb hg hat
     rw [← gc.out] at ho
     replace D := mA (yH (rP D.out) (yV (rP d.out)) (by decide) hg)
     replace E := mA (yH (rP E.out) (yV (rP d.out)) (by decide) hg)
     replace a := mA (Zaq (g := G) (o := .cells #[.int .i64 y, .int .i64 z, .slice (some aI) O.length ab, .slice ah x.length ac] 63 (0, 0)) (bP a.out) hg (zQ d.out a.out (by decide)))
     replace l := mA (Zaq (g := T) (o := .cells #[.int .i64 0, .int .i64 0, .slice none 0 0, .slice none 0 0] 63 (0, 0)) (bP l.out) hg (zQ d.out l.out (by decide)))
     replace r := mA (Zaq (g := aa) (o := mobj (Value.int .i64) (Value.int .i64) I) (bP r.out) hg (Kd.R_nem d.out r.out))
     replace m := mA (Zaq (g := P) (o := .cells #[.int .i64 y, .int .i64 0, .slice aA B.length aC, .slice af s.length ag] 63 (0, 0)) (bP m.out) hg (zQ d.out m.out (by decide)))
     replace aK := mA (Kd.S_over' (sP aK.out) (yV (rP d.out)) (by decide) hg)
     replace av := mA (zU (ok := (fun _ => True)) (by (with_reducible repeat (first | apply zD | apply zE | apply zA)); exact zC av.out (fun _ hk => ⟨trivial, hk⟩)) hg hat)
     replace HB := mA (hb)
     have fh := mA (ho)
     clear d ho hb hg hat
     obtain ⟨cE, cF, fC⟩ := yD aK.out
     (first | subst fC | (injection fC with al aE am; have aG := al.symm; have aH := am.symm; clear al aE am; subst aG; subst aH))
     obtain ⟨cY, cZ, fD⟩ := zP fh.out
     (first | subst fD | (injection fD with al aE am; have aG := al.symm; have aH := am.symm; clear al aE am; subst aG; subst aH))
     refine hK.out _ _ ?_
     clear hK K
     refine putS 120 ?_
     refine last_ (i := 18) (N := none) #[true, true, true, true, true, true, true, true, true, true, true, true, true, true, true, true, true, true, true, false, false] rfl rfl (Zb4 HT_.out (by kernel_rfl)) (by decide) (fun K hK => ?_)
     have i8 : gp.cell? ⟨P, 3, none⟩ = some (.slice af s.length ag) := bc m 3
     have iJ := Zae m.out 3
     have hM := aj.out
     have hN := ao.out
     have hO := ap.out
     have hP := aW.out
     have hQ := a8.out
     have hR := aX.out
     refine skip_ (w1 := ?_) (by rfl) rfl ?_ ?_
     rotate_left
     ·go_simp
      rfl
     refine hK.out _ _ ?_
     clear hK K
     refine Zav (i := 19) (N := some 122) (Zaw HT_.out (by kernel_rfl)) ?_
     refine last_ (i := 20) (N := none) #[true, true, true, true, true, true, true, true, true, true, true, true, true, true, true, true, true, true, true, true, true] rfl rfl (Zb4 HT_.out (by kernel_rfl)) (by decide) (fun K hK => ?_)
     have iK : gp.cell? ⟨P, 2, none⟩ = some (.slice aA B.length aC) := bc m 2
     have ib := Zae m.out 2
     have hD := aj.out
     have hE := ao.out
     have hF := ap.out
     have hG := aW.out
     have hH := a8.out
     have hI := aX.out
     refine skip_ (w1 := ?_) (by rfl) rfl ?_ ?_
     rotate_left
     ·go_simp
      rfl
     refine hK.out _ _ ?_
     clear hK K
     refine done_ (done_of HT_.out (by kernel_rfl)) ?_
     try go_wp2
     go_roundg k2
     case measure => have := bA.out; have := bB.out; omega
     case rel => exact ⟨(q), (wrap64 (v + 1)), (I), (cA), (bm), (.slice cY cA.length cZ), (.slice cE bm.length cF), (eW), H', ⟨by have := bA.out; have := bB.out; omega⟩, ⟨by (with_reducible repeat (first | apply zD | apply zE | apply zA)); exact zC (zH (p := ⟨P, 2, none⟩) (zH (p := ⟨P, 3, none⟩) (zX D.out m.out (by decide)) (fun _ hk => hk.2) (.slice cE bm.length cF)) (fun _ hk => hk.2) (.slice cY cA.length cZ)) (fun _ hk => hk.1)⟩, ⟨by (with_reducible repeat (first | apply zD | apply zE | apply zA)); exact zC (zH (p := ⟨P, 2, none⟩) (zH (p := ⟨P, 3, none⟩) (zX E.out m.out (by decide)) (fun _ hk => hk.2) (.slice cE bm.length cF)) (fun _ hk => hk.2) (.slice cY cA.length cZ)) (fun _ hk => hk.1)⟩, ⟨by (with_reducible repeat (first | apply zD | apply zE | apply zA)); exact zC (zH (p := ⟨P, 2, none⟩) (zH (p := ⟨P, 3, none⟩) (zX fh.out m.out (by decide)) (fun _ hk => hk.2) (.slice cE bm.length cF)) (fun _ hk => hk.2) (.slice cY cA.length cZ)) (fun _ hk => trivial)⟩, ⟨by (with_reducible repeat (first | apply zI | apply zJ | apply zG)); exact zF (zB (p := ⟨P, 2, none⟩) (zB (p := ⟨P, 3, none⟩) (zR aK.out m.out (by decide)) (fun _ hk => hk.2) (.slice cE bm.length cF)) (fun _ hk => hk.2) (.slice cY cA.length cZ)) (fun _ hk => ⟨hk.1.1, hk.1.2⟩)⟩, ⟨by (with_reducible repeat (first | refine Zac ?_ _ | refine Zab ?_ | refine Zaa ?_ _)); refine Zcu ?_ aj.out _; (with_reducible repeat (first | refine Zac ?_ _ | refine Zab ?_ | refine Zaa ?_ _)); refine Zcu ?_ aj.out _; exact bP a.out⟩, ⟨by (with_reducible repeat (first | refine Zac ?_ _ | refine Zab ?_ | refine Zaa ?_ _)); refine Zcu ?_ ao.out _; (with_reducible repeat (first | refine Zac ?_ _ | refine Zab ?_ | refine Zaa ?_ _)); refine Zcu ?_ ao.out _; exact bP l.out⟩, ⟨by (with_reducible repeat (first | refine Zac ?_ _ | refine Zab ?_ | refine Zaa ?_ _)); refine Zcu ?_ ap.out _; (with_reducible repeat (first | refine Zac ?_ _ | refine Zab ?_ | refine Zaa ?_ _)); refine Zcu ?_ ap.out _; exact bP r.out⟩, ⟨by (with_reducible repeat (first | refine Zac ?_ _ | refine Zab ?_ | refine Zaa ?_ _)); refine Zao (cs := #[.int .i64 y, .int .i64 0, .slice aA B.length aC, .slice cE bm.length cF]) ?_ 2 _ rfl; (with_reducible repeat (first | refine Zac ?_ _ | refine Zab ?_ | refine Zaa ?_ _)); refine Zao (cs := #[.int .i64 y, .int .i64 0, .slice aA B.length aC, .slice af s.length ag]) ?_ 3 _ rfl; exact bP m.out⟩, ⟨bW⟩⟩
end Go.Proofs.Ytgindgodfcfgkaa.P
end M0
