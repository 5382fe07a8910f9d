import Derived.Test.YtjdkedmdeajmgaaDoorCFnExactNormalAutomaton4
import Derived.Test.YtjdkedmdeajmgaaDoorCFnExactNormalAutomaton7
section M0
namespace Go.Proofs.YtjdkedmdeajmgaaDoor.P
open Go.RowKit Go.Proofs.YtjdkedmdeajmgaaDoor.Sh Go.Proofs.YtjdkedmdeajmgaaDoorW.PrintWords Go.Proofs.YtjdkedmdeajmgaaDoorW.PrintLast Go.Proofs.YtjdkedmdeajmgaaDoorW.PrintMore
open Kd
attribute [local go_sem] Zcf Zch Zcv Zcu Zb6 Zb7 Zcg Zce   -- for this text's walks alone
set_option linter.unusedVariables false
set_option linter.unusedSimpArgs false
def Za8.f (k : Nat) (d : Int) (e : List Int) : Option (Int × Int × Int × (List (List Int)) × Int) := (Za7.f k d e).bind fun g => (if g = true then ((Zdd.f d).bind fun b => ((Zak.f k d e b.1 b.2.1 b.2.2.1 b.2.2.2).bind fun c => ((Zag.f k c.1 c.2.1 c.2.2.1).bind fun a => (if a.2.2.2.2 > 16 then (some (0, 0, 0, ([] : List (List Int)), 3)) else (some (a.1, a.2.1, a.2.2.1, a.2.2.2.1, 0)))))) else (some (0, 0, 0, ([] : List (List Int)), 1)))
def Za8.T3 : Bool × List (List Nat × List Nat) := (true, [([], []), ([], []), ([1], [1]), ([2], [2]), ([0, 3, 3], [0, 3]), ([4], [4]), ([5], [5]), ([5], [5]), ([], []), ([8, 6, 4, 0, 1, 2, 3, 4, 5, 6, 8], [6, 8]), ([7, 9, 0, 1, 2, 3, 4, 5, 6, 7, 8, 9], [7])])
def Za8.B3 : List Nat := [0, 0, 2, 6, 15, 31, 63, 63, 0, 383, 1023]
theorem Za8.tab3 : rtab .any (opsOf Tryd.f17 3) = Za8.T3 := by kernel_rfl
theorem Za8.bits3 : Zcb Za8.T3.2 Za8.B3 = true := by kernel_rfl
set_option maxHeartbeats 8000000 in
set_option maxRecDepth 100000 in
theorem Za8.calls (k : Nat) (v : Int) (L : Option Addr) (M : Nat) (A : List Int) (r1 : Int) (r2 : Int) (r3 : Int) (r4 : List (List Int)) (r5 : Int) (w : World) (bp : Kd.C (Kd.int .i64) w L A.length A) (bq : A.length ≤ M) (h : Za8.f k v A = some (r1, r2, r3, r4, r5)) :
  Calls Tryd.prog 17 #[.agg #[.int .i64 v, .slice L A.length M]] w fun e w' => ∃ bK : Value, e = .returned (.tuple #[.agg #[.int .i64 r1, .int .i64 r2, .int .i64 r3, bK], .int .i64 r5]) ∧ Kd.S (Kd.slice 2 (Kd.int .i64)) 22 w' w.heap.size (fun _ => True) bK r4 ∧ Below w.heap.size w w' := by
 have eb := Tryd.underlying30
 have ec := Tryd.underlying39
 have ed := Tryd.underlying66
 have au := mA bp
 have av := mA bq
 clear bp bq
 have HB := mA (Below.refl w.heap.size w)
 unfold Za8.f at h
 have H := h
 clear h
 obtain ⟨bN, A2, H⟩ := bA H
 by_cases c3 : bN = true; rotate_left
 ·replace c3 := Bool.eq_false_iff.mpr c3
  subst c3
  rw [iF] at H
  simp only [Option.some.injEq, Prod.mk.injEq] at H
  obtain ⟨rfl, rfl, rfl, rfl, rfl⟩ := H
  go_enter Tryd.func17, Tryd.ntmps17
  go_wp2_with (first | ((with_reducible refine Zat (N := 1) rfl ?_); refine boxS (N := 1) (cs := #[.int .i64 v, .slice L A.length M]) (t := 30) ?_; intro E hg em hbox hb; have a := mA (hbox); have br := geW (w := w) hg; have bs := geW (w := w) hg; replace HB := mA (Zaf (bW) hb); clear hb hbox hg) | ((with_reducible refine Zat (N := 2) rfl ?_); refine boxS (N := 2) (cs := #[.int .i64 0, .int .i64 0, .int .i64 0, .slice none 0 0]) (t := 39) ?_; intro J hg en hbox hb; have d := mA (hbox); have bu := geW (w := w) hg; have bv := geW (w := w) hg; replace HB := mA (Zaf (bW) hb); have al := mA (neB hg a); have am := mA (neC hg a); replace a := mA (blkB a.out hb); clear hb hbox hg; have dD := al.out; have dE := am.out; obtain ⟨bT, bU⟩ := Zcj a.out; obtain ⟨bV, bX⟩ := frz2 a.out) | ((with_reducible refine Zax (f := 55) rfl ?_); refine Zbi (some 9) Tryd.func55 #[.agg #[.int .i64 v, .slice L A.length M]] ?_; (with_reducible refine (Za7.calls k v _ _ A false _ ?side1 ?side2 A2.out).mono ?_); (case side1 => exact cP (zQ au.out HB.out)); (case side2 => exact av.out); rintro e eo ⟨rfl, hb⟩; refine ⟨_, rfl, ?_⟩; replace a := mA (blkB a.out hb); replace d := mA (blkB d.out hb); replace HB := mA (Zaf (bW) hb); (try clear hb); (try clear hb2); (try clear hk); (try clear hi); obtain ⟨bY, bZ, b0, b1⟩ := Zbl d.out; obtain ⟨b2, b3, b4, b5⟩ := frz4 d.out))
  refine bodyPost_ret (Zdh rfl _ _ J 39 #[.int .i64 0, .int .i64 0, .int .i64 0, .slice none 0 0] (0, 0) _ rfl (by (with_reducible repeat (first | refine Zad ?_ _ | refine Zaa ?_ | refine Zab ?_ _)); refine Zau (cs := #[.int .i64 0, .int .i64 0, .int .i64 0, .slice none 0 0]) ?_ 3 _ rfl; (with_reducible repeat (first | refine Zad ?_ _ | refine Zaa ?_ | refine Zab ?_ _)); refine Zau (cs := #[.int .i64 0, .int .i64 0, .int .i64 0, .slice none 0 0]) ?_ 2 _ rfl; (with_reducible repeat (first | refine Zad ?_ _ | refine Zaa ?_ | refine Zab ?_ _)); refine Zau (cs := #[.int .i64 0, .int .i64 0, .int .i64 0, .slice none 0 0]) ?_ 1 _ rfl; (with_reducible repeat (first | refine Zad ?_ _ | refine Zaa ?_ | refine Zab ?_ _)); refine Zau (cs := #[.int .i64 0, .int .i64 0, .int .i64 0, .slice none 0 0]) ?_ 0 _ rfl; exact bP d.out) Tryd.underlying39 rfl (by kernel_rfl)) rfl ?_
  exact ⟨_, eW, by first | exact yU _ _ _ _ _ | exact yW _ _ _ _ _ | exact yX _ _ _ _ _ | exact yT _ _ _ _ _ | exact yR _ _ _ _ _, bW⟩
 subst c3
 rw [if_pos rfl] at H
 obtain ⟨⟨X, Y, aa, O⟩, A4, H⟩ := bA H
 try dsimp only at H
 obtain ⟨⟨y, B, D, aA⟩, A5, H⟩ := bA H
 try dsimp only at H
 obtain ⟨⟨aB, aI, aK, aL, aM⟩, A6, H⟩ := bA H
 try dsimp only at H
 by_cases c7 : aM > 16
 ·rw [if_pos c7] at H
  have bO : decide (16 < aM) = true := dT c7
  clear c7
  simp only [Option.some.injEq, Prod.mk.injEq] at H
  obtain ⟨rfl, rfl, rfl, rfl, rfl⟩ := H
  go_enter Tryd.func17, Tryd.ntmps17
  try go_wp2_with (first | ((with_reducible refine Zat (N := 1) rfl ?_); refine boxS (N := 1) (cs := #[.int .i64 v, .slice L A.length M]) (t := 30) ?_; intro E hg w8 hbox hb; have a := mA (hbox); have br := geW (w := w) hg; have bs := geW (w := w) hg; replace HB := mA (Zaf (bW) hb); clear hb hbox hg) | ((with_reducible refine Zat (N := 2) rfl ?_); refine boxS (N := 2) (cs := #[.int .i64 0, .int .i64 0, .int .i64 0, .slice none 0 0]) (t := 39) ?_; intro J hg w9 hbox hb; have d := mA (hbox); have bu := geW (w := w) hg; have bv := geW (w := w) hg; replace HB := mA (Zaf (bW) hb); have al := mA (neB hg a); have am := mA (neC hg a); replace a := mA (blkB a.out hb); clear hb hbox hg; have dG := al.out; have dH := am.out; obtain ⟨b6, b7⟩ := Zcj a.out; obtain ⟨b8, b9⟩ := frz2 a.out) | ((with_reducible refine Zax (f := 55) rfl ?_); refine Zbi (some 9) Tryd.func55 #[.agg #[.int .i64 v, .slice L A.length M]] ?_; (with_reducible refine (Za7.calls k v _ _ A true _ ?side1 ?side2 A2.out).mono ?_); (case side1 => exact cP (zQ au.out HB.out)); (case side2 => exact av.out); rintro e dx ⟨rfl, hb⟩; refine ⟨_, rfl, ?_⟩; replace a := mA (blkB a.out hb); replace d := mA (blkB d.out hb); replace HB := mA (Zaf (bW) hb); (try clear hb); (try clear hb2); (try clear hk); (try clear hi)))
  replace a := mA (Zaa a.out)
  replace d := mA (Zaa d.out)
  replace HB := mA (Za1 HB.out)
  refine Zck (n := 11) (S := fun w' => w'.cell? ⟨E, 0, none⟩ = some (.int .i64 v) ∧ w'.cell? ⟨E, 1, none⟩ = some (.slice L A.length M)) (ds := []) #[false, false, false, false, false, false, false, false, false, false, false] (by kernel_rfl) rfl rfl ⟨bc a 0, bc a 1⟩ (fun hHeld => ?_); refine Zb5 Za8.tab3 Za8.bits3 (fun HT_ HW_ => ?_)
  generalize dx.drew = w13 at a d HB hHeld ⊢
  refine Zas (i := 1) (N := some 14) (Zap HT_.out (by kernel_rfl)) ?_
  refine Zbg (i := 0) (N := some 13) (Za0 HT_.out HW_.out (by kernel_rfl)) hHeld ?_
  refine Zbg (i := 2) (N := some 15) (Za0 HT_.out HW_.out (by kernel_rfl)) hHeld ?_
  refine join_ (σ := Value × Value × Value × Value × Nat) 2 #[true, true, true, true, true, true, true, true, true, false, false] (fun s_ => [(16, .agg #[.int .i64 X, .int .i64 Y, .int .i64 aa, s_.1]), (17, .tuple #[.agg #[.int .i64 y, s_.2.1, s_.2.2.1], s_.2.2.2.1]), (4, .pointer (some ⟨s_.2.2.2.2, 0, none⟩)), (12, .tuple #[.agg #[.int .i64 y, s_.2.1, s_.2.2.1], s_.2.2.2.1]), (18, .agg #[.int .i64 y, s_.2.1, s_.2.2.1]), (19, s_.2.2.2.1)]) (fun s_ w' => (w'.cell? ⟨E, 0, none⟩ = some (.int .i64 v) ∧ w'.cell? ⟨E, 1, none⟩ = some (.slice L A.length M)) ∧ (Kd.S (Kd.slice 2 (Kd.int .i64)) 22 w' w.heap.size (fun k_ => some k_ ≠ (s_.2.1 : Value).ownBlock ∧ some k_ ≠ (s_.2.2.2.1 : Value).ownBlock) s_.1 O) ∧ (Kd.S (Kd.slice 2 (Kd.int .i64)) 22 w' w.heap.size (fun k_ => some k_ ≠ (s_.1 : Value).ownBlock ∧ some k_ ≠ (s_.2.2.2.1 : Value).ownBlock) s_.2.1 B) ∧ (Kd.R Kd.bool 4 w' w.heap.size (fun _ => True) s_.2.2.1 D) ∧ (Kd.R (Kd.int .i64) 2 w' w.heap.size (fun _ => True) s_.2.2.2.1 aA) ∧ (w'.heap[E]? = some (.cells #[.int .i64 v, .slice L A.length M] 30 (0, 0))) ∧ (w'.heap[J]? = some (.cells #[.int .i64 0, .int .i64 0, .int .i64 0, .slice none 0 0] 39 (0, 0))) ∧ (w'.heap[s_.2.2.2.2]? = some (.cells #[.int .i64 0, .slice none 0 0, .slice none 0 0] 66 (0, 0))) ∧ (w.heap.size ≤ s_.2.2.2.2) ∧ (w.heap.size ≤ s_.2.2.2.2) ∧ (E ≠ s_.2.2.2.2) ∧ (s_.2.2.2.2 ≠ E) ∧ (J ≠ s_.2.2.2.2) ∧ (s_.2.2.2.2 ≠ J) ∧ (Below w.heap.size w w')) ?_ ?_
  rotate_left
  ·intro hCont
   refine two_ (i := 3) (j := 8) (Ni := some 16) (Nj := some 4) #[true, true, true, true, false, false, false, false, false, false, false] #[true, true, true, false, false, false, false, false, true, false, false] rfl rfl rfl rfl (two_of HT_.out (by kernel_rfl)) (by decide) (by decide) (fun K hK => ?_) (fun K hK => ?_); rotate_left
   ·skip
    refine box_step ?hg (N := 4) ?hd (cs := #[.int .i64 0, .slice none 0 0, .slice none 0 0]) (t := 66) ?hr ?_; (case hd => rfl); (case hg => rfl); (case hr => first | (go_simp; done) | (go_simp; rfl))
    intro b hg dy hbox hb
    have l := mA (hbox)
    have ad := geW (w := w) hg
    have ae := geW (w := w) hg
    replace HB := mA (Zaf (bW) hb)
    have m := mA (neB hg a)
    have s := mA (neC hg a)
    replace a := mA (blkB a.out hb)
    have r := mA (neB hg d)
    have u := mA (neC hg d)
    replace d := mA (blkB d.out hb)
    clear hb hbox hg
    refine hK.out _ _ ⟨bc a 0, bc a 1⟩ (fun hHeld => ?_)
    clear hK K
    refine putS 4 ?_
    refine one_ (i := 3) (N := some 16) #[true, true, true, true, false, false, false, false, true, false, false] rfl rfl (Zbe HT_.out (by kernel_rfl)) (by decide) (fun K hK => ?_)
    refine goes_ Tryd.func57 (by kernel_rfl) rfl #[.int .i64 v] (by rfl) rfl rfl (by (try simp only [List.map_toArray, List.map_cons, List.map_nil]); first | done | rfl | (simp only [List.length_drop, List.length_take]; rfl)) ?_
    with_reducible refine (Zdd.calls v X Y aa O _ A4.out).mono ?_
    rintro e dz ⟨aw, rfl, I, hb⟩
    refine ⟨_, rfl, ?_⟩
    have q := mA (yL I (Zaj (bW)))
    replace a := mA (blkB a.out hb)
    replace d := mA (blkB d.out hb)
    replace l := mA (blkB l.out hb)
    replace HB := mA (Zaf (bW) hb)
    (try clear hb)
    (try clear hb2)
    (try clear hk)
    (try clear hi)
    (try clear I)
    obtain ⟨aN, aO, aP⟩ := yE q.out
    (first | subst aP | (injection aP with T ag U; have ah := T.symm; have ai := U.symm; clear T ag U; subst ah; subst ai))
    refine hK.out _ _ ⟨bc a 0, bc a 1⟩ (fun hHeld => ?_)
    clear hK K
    refine putS 16 ?_
    refine one_ (i := 4) (N := some 17) #[true, true, true, true, true, false, false, false, true, false, false] rfl rfl (Zbe HT_.out (by kernel_rfl)) (by decide) (fun K hK => ?_)
    refine goes_ Tryd.func56 (by kernel_rfl) rfl #[.agg #[.int .i64 v, .slice L A.length M], .agg #[.int .i64 X, .int .i64 Y, .int .i64 aa, .slice aN O.length aO]] (by rfl) rfl rfl (by (try simp only [List.map_toArray, List.map_cons, List.map_nil]); first | done | rfl | (simp only [List.length_drop, List.length_take]; rfl)) ?_
    with_reducible refine (Zak.calls k v _ _ A X Y aa _ _ O y B D aA _ ?side1 ?side2 ?side3 ?side4 A5.out).mono ?_
    (case side1 => exact cP (zQ au.out HB.out))
    (case side2 => exact av.out)
    (case side3 => exact cP ((yA q.out).2.2))
    (case side4 => exact (yA q.out).2.1)
    rintro e bL ⟨ab, af, W, rfl, I, an, ac, hb⟩
    refine ⟨_, rfl, ?_⟩
    have x := mA (yL (yM I (yS (sP q.out))) (Zaj (bW)))
    replace q := mA (zG (yZ (yZ (Kd.S_old (sP q.out) hb) (yV I)) (zU ac)) (fun _ h_ => h_.1))
    have z := mA (zS an (Zaj (bW)))
    have G := mA (zS ac (Zaj (bW)))
    replace a := mA (blkB a.out hb)
    replace d := mA (blkB d.out hb)
    replace l := mA (blkB l.out hb)
    replace HB := mA (Zaf (bW) hb)
    (try clear hb)
    (try clear hb2)
    (try clear hk)
    (try clear hi)
    (try clear I)
    (try clear an)
    (try clear ac)
    refine hK.out _ _ ⟨bc a 0, bc a 1⟩ (fun hHeld => ?_)
    clear hK K
    refine putS 17 ?_
    refine Zas (i := 5) (N := some 12) (Zap HT_.out (by kernel_rfl)) ?_
    refine Zas (i := 6) (N := some 18) (Zap HT_.out (by kernel_rfl)) ?_
    refine Zas (i := 7) (N := some 19) (Zap HT_.out (by kernel_rfl)) ?_
    exact norm_ (by simp only [Zcy, Act.put, List.setIfInBounds_toArray, List.set_cons_zero, List.set_cons_succ]) (hCont (.slice aN O.length aO, ab, af, W, b) _ ⟨hHeld, (by (with_reducible repeat (first | apply zL | apply zM | apply zH)); exact zG q.out (fun _ hk => ⟨hk.1.2, hk.2⟩)), (by (with_reducible repeat (first | apply zL | apply zM | apply zH)); exact zG x.out (fun _ hk => ⟨hk.2, hk.1⟩)), (rP z.out), (rP G.out), (bP a.out), (bP d.out), (bP l.out), ad.out, ae.out, m.out, s.out, r.out, u.out, (bW)⟩)
   skip
   refine goes_ Tryd.func57 (by kernel_rfl) rfl #[.int .i64 v] (by rfl) rfl rfl (by (try simp only [List.map_toArray, List.map_cons, List.map_nil]); first | done | rfl | (simp only [List.length_drop, List.length_take]; rfl)) ?_
   with_reducible refine (Zdd.calls v X Y aa O _ A4.out).mono ?_
   rintro e dy ⟨aw, rfl, I, hb⟩
   refine ⟨_, rfl, ?_⟩
   have q := mA (yL I (Zaj (bW)))
   replace a := mA (blkB a.out hb)
   replace d := mA (blkB d.out hb)
   replace HB := mA (Zaf (bW) hb)
   (try clear hb)
   (try clear hb2)
   (try clear hk)
   (try clear hi)
   (try clear I)
   obtain ⟨bw, bx, bz⟩ := yE q.out
   (first | subst bz | (injection bz with T ag U; have ah := T.symm; have ai := U.symm; clear T ag U; subst ah; subst ai))
   refine hK.out _ _ ⟨bc a 0, bc a 1⟩ (fun hHeld => ?_)
   clear hK K
   refine putS 16 ?_
   refine two_ (i := 4) (j := 8) (Ni := some 17) (Nj := some 4) #[true, true, true, true, true, false, false, false, false, false, false] #[true, true, true, true, false, false, false, false, true, false, false] rfl rfl rfl rfl (two_of HT_.out (by kernel_rfl)) (by decide) (by decide) (fun K hK => ?_) (fun K hK => ?_)
   ·skip
    refine goes_ Tryd.func56 (by kernel_rfl) rfl #[.agg #[.int .i64 v, .slice L A.length M], .agg #[.int .i64 X, .int .i64 Y, .int .i64 aa, .slice bw O.length bx]] (by rfl) rfl rfl (by (try simp only [List.map_toArray, List.map_cons, List.map_nil]); first | done | rfl | (simp only [List.length_drop, List.length_take]; rfl)) ?_
    with_reducible refine (Zak.calls k v _ _ A X Y aa _ _ O y B D aA _ ?side1 ?side2 ?side3 ?side4 A5.out).mono ?_
    (case side1 => exact cP (zQ au.out HB.out))
    (case side2 => exact av.out)
    (case side3 => exact cP ((yA q.out).2.2))
    (case side4 => exact (yA q.out).2.1)
    rintro e ep ⟨ab, af, W, rfl, I, an, ac, hb⟩
    refine ⟨_, rfl, ?_⟩
    have x := mA (yL (yM I (yS (sP q.out))) (Zaj (bW)))
    replace q := mA (zG (yZ (yZ (Kd.S_old (sP q.out) hb) (yV I)) (zU ac)) (fun _ h_ => h_.1))
    have z := mA (zS an (Zaj (bW)))
    have G := mA (zS ac (Zaj (bW)))
    replace a := mA (blkB a.out hb)
    replace d := mA (blkB d.out hb)
    replace HB := mA (Zaf (bW) hb)
    (try clear hb)
    (try clear hb2)
    (try clear hk)
    (try clear hi)
    (try clear I)
    (try clear an)
    (try clear ac)
    refine hK.out _ _ ⟨bc a 0, bc a 1⟩ (fun hHeld => ?_)
    clear hK K
    refine putS 17 ?_
    refine Zas (i := 5) (N := some 12) (Zap HT_.out (by kernel_rfl)) ?_
    refine Zas (i := 6) (N := some 18) (Zap HT_.out (by kernel_rfl)) ?_
    refine Zas (i := 7) (N := some 19) (Zap HT_.out (by kernel_rfl)) ?_
    refine one_ (i := 8) (N := some 4) #[true, true, true, true, true, true, true, true, true, false, false] rfl rfl (Zbe HT_.out (by kernel_rfl)) (by decide) (fun K hK => ?_)
    refine box_step ?hg (N := 4) ?hd (cs := #[.int .i64 0, .slice none 0 0, .slice none 0 0]) (t := 66) ?hr ?_; (case hd => rfl); (case hg => rfl); (case hr => first | (go_simp; done) | (go_simp; rfl))
    intro b hg bL hbox hb
    replace q := mA (zW (sP q.out) hb)
    replace x := mA (zW (sP x.out) hb)
    replace z := mA (zK (rP z.out) hb)
    replace G := mA (zK (rP G.out) hb)
    have l := mA (hbox)
    have ad := geW (w := w) hg
    have ae := geW (w := w) hg
    replace HB := mA (Zaf (bW) hb)
    have m := mA (neB hg a)
    have s := mA (neC hg a)
    replace a := mA (blkB a.out hb)
    have r := mA (neB hg d)
    have u := mA (neC hg d)
    replace d := mA (blkB d.out hb)
    clear hb hbox hg
    refine hK.out _ _ ⟨bc a 0, bc a 1⟩ (fun hHeld => ?_)
    clear hK K
    refine putS 4 ?_
    exact norm_ (by simp only [Zcy, Act.put, List.setIfInBounds_toArray, List.set_cons_zero, List.set_cons_succ]) (hCont (.slice bw O.length bx, ab, af, W, b) _ ⟨hHeld, (by (with_reducible repeat (first | apply zL | apply zM | apply zH)); exact zG q.out (fun _ hk => ⟨hk.1.2, hk.2⟩)), (by (with_reducible repeat (first | apply zL | apply zM | apply zH)); exact zG x.out (fun _ hk => ⟨hk.2, hk.1⟩)), (rP z.out), (rP G.out), (bP a.out), (bP d.out), (bP l.out), ad.out, ae.out, m.out, s.out, r.out, u.out, (bW)⟩)
   skip
   refine box_step ?hg (N := 4) ?hd (cs := #[.int .i64 0, .slice none 0 0, .slice none 0 0]) (t := 66) ?hr ?_; (case hd => rfl); (case hg => rfl); (case hr => first | (go_simp; done) | (go_simp; rfl))
   intro b hg dz hbox hb
   replace q := mA (zW (sP q.out) hb)
   have l := mA (hbox)
   have ad := geW (w := w) hg
   have ae := geW (w := w) hg
   replace HB := mA (Zaf (bW) hb)
   have m := mA (neB hg a)
   have s := mA (neC hg a)
   replace a := mA (blkB a.out hb)
   have r := mA (neB hg d)
   have u := mA (neC hg d)
   replace d := mA (blkB d.out hb)
   clear hb hbox hg
   obtain ⟨aN, aO, aP⟩ := yE q.out
   (first | subst aP | (injection aP with T ag U; have ah := T.symm; have ai := U.symm; clear T ag U; subst ah; subst ai))
   refine hK.out _ _ ⟨bc a 0, bc a 1⟩ (fun hHeld => ?_)
   clear hK K
   refine putS 4 ?_
   refine one_ (i := 4) (N := some 17) #[true, true, true, true, true, false, false, false, true, false, false] rfl rfl (Zbe HT_.out (by kernel_rfl)) (by decide) (fun K hK => ?_)
   refine goes_ Tryd.func56 (by kernel_rfl) rfl #[.agg #[.int .i64 v, .slice L A.length M], .agg #[.int .i64 X, .int .i64 Y, .int .i64 aa, .slice aN O.length aO]] (by rfl) rfl rfl (by (try simp only [List.map_toArray, List.map_cons, List.map_nil]); first | done | rfl | (simp only [List.length_drop, List.length_take]; rfl)) ?_
   with_reducible refine (Zak.calls k v _ _ A X Y aa _ _ O y B D aA _ ?side1 ?side2 ?side3 ?side4 A5.out).mono ?_
   (case side1 => exact cP (zQ au.out HB.out))
   (case side2 => exact av.out)
   (case side3 => exact cP ((yA q.out).2.2))
   (case side4 => exact (yA q.out).2.1)
   rintro e bL ⟨ab, af, W, rfl, I, an, ac, hb⟩
   refine ⟨_, rfl, ?_⟩
   have x := mA (yL (yM I (yS (sP q.out))) (Zaj (bW)))
   replace q := mA (zG (yZ (yZ (Kd.S_old (sP q.out) hb) (yV I)) (zU ac)) (fun _ h_ => h_.1))
   have z := mA (zS an (Zaj (bW)))
   have G := mA (zS ac (Zaj (bW)))
   replace a := mA (blkB a.out hb)
   replace d := mA (blkB d.out hb)
   replace l := mA (blkB l.out hb)
   replace HB := mA (Zaf (bW) hb)
   (try clear hb)
   (try clear hb2)
   (try clear hk)
   (try clear hi)
   (try clear I)
   (try clear an)
   (try clear ac)
   refine hK.out _ _ ⟨bc a 0, bc a 1⟩ (fun hHeld => ?_)
   clear hK K
   refine putS 17 ?_
   refine Zas (i := 5) (N := some 12) (Zap HT_.out (by kernel_rfl)) ?_
   refine Zas (i := 6) (N := some 18) (Zap HT_.out (by kernel_rfl)) ?_
   refine Zas (i := 7) (N := some 19) (Zap HT_.out (by kernel_rfl)) ?_
   exact norm_ (by simp only [Zcy, Act.put, List.setIfInBounds_toArray, List.set_cons_zero, List.set_cons_succ]) (hCont (.slice aN O.length aO, ab, af, W, b) _ ⟨hHeld, (by (with_reducible repeat (first | apply zL | apply zM | apply zH)); exact zG q.out (fun _ hk => ⟨hk.1.2, hk.2⟩)), (by (with_reducible repeat (first | apply zL | apply zM | apply zH)); exact zG x.out (fun _ hk => ⟨hk.2, hk.1⟩)), (rP z.out), (rP G.out), (bP a.out), (bP d.out), (bP l.out), ad.out, ae.out, m.out, s.out, r.out, u.out, (bW)⟩)
  rintro ⟨aw, ab, af, W, b⟩ w18 ⟨hS_, a1, a2, a3, a4, a5, a6, a7, a8, a9, ba, aQ, aR, aS, aT⟩
  have bb : Zac (Kd.S (Kd.slice 2 (Kd.int .i64)) 22 w18 w.heap.size (fun k_ => some k_ ≠ (ab : Value).ownBlock ∧ some k_ ≠ (W : Value).ownBlock) aw O) := ⟨a1⟩
  have bd : Zac (Kd.S (Kd.slice 2 (Kd.int .i64)) 22 w18 w.heap.size (fun k_ => some k_ ≠ (aw : Value).ownBlock ∧ some k_ ≠ (W : Value).ownBlock) ab B) := ⟨a2⟩
  have bf : Zac (Kd.R Kd.bool 4 w18 w.heap.size (fun _ => True) af D) := ⟨a3⟩
  have bg : Zac (Kd.R (Kd.int .i64) 2 w18 w.heap.size (fun _ => True) W aA) := ⟨a4⟩
  have bh : Zac (w18.heap[E]? = some (.cells #[.int .i64 v, .slice L A.length M] 30 (0, 0))) := ⟨a5⟩
  have bi : Zac (w18.heap[J]? = some (.cells #[.int .i64 0, .int .i64 0, .int .i64 0, .slice none 0 0] 39 (0, 0))) := ⟨a6⟩
  have bj : Zac (w18.heap[b]? = some (.cells #[.int .i64 0, .slice none 0 0, .slice none 0 0] 66 (0, 0))) := ⟨a7⟩
  have bk : Zac (w.heap.size ≤ b) := ⟨a8⟩
  have bl : Zac (w.heap.size ≤ b) := ⟨a9⟩
  have bm : Zac (E ≠ b) := ⟨ba⟩
  have aU : Zac (b ≠ E) := ⟨aQ⟩
  have aV : Zac (J ≠ b) := ⟨aR⟩
  have aW : Zac (b ≠ J) := ⟨aS⟩
  have aX : Zac (Below w.heap.size w w18) := ⟨aT⟩
  clear a d HB a1 a2 a3 a4 a5 a6 a7 a8 a9 ba aQ aR aS aT; have q := bb; have x := bd; have z := bf; have G := bg; have a := bh; have d := bi; have l := bj; have ad := bk; have ae := bl; have m := bm; have s := aU; have r := aV; have u := aW; have HB := aX; clear bb bd bf bg bh bi bj bk bl bm aU aV aW aX
  have hHeld : w18.cell? ⟨E, 0, none⟩ = some (.int .i64 v) ∧ w18.cell? ⟨E, 1, none⟩ = some (.slice L A.length M) := hS_
  obtain ⟨ao, aj, bB⟩ := yE x.out
  (first | subst bB | (injection bB with T ag U; have ah := T.symm; have ai := U.symm; clear T ag U; subst ah; subst ai))
  obtain ⟨ax, ap, bC⟩ := zP z.out
  (first | subst bC | (injection bC with T ag U; have ah := T.symm; have ai := U.symm; clear T ag U; subst ah; subst ai))
  refine norm_ (a' := ?_) ?_ ?_
  rotate_left
  ·simp only [Zcy, Act.put, List.setIfInBounds_toArray, List.set_cons_zero, List.set_cons_succ]
   rfl
  refine one_ (i := 9) (N := none) #[true, true, true, true, true, true, true, true, true, true, false] rfl rfl (Zbe HT_.out (by kernel_rfl)) (by decide) (fun K hK => ?_)
  have ee : w18.cell? ⟨b, 0, none⟩ = some (.int .i64 0) := bc l 0
  have dI := Zae l.out 0
  have ca := m.out
  have cb := r.out
  have cc := s.out
  have cd := u.out
  have ef : w18.cell? ⟨b, 1, none⟩ = some (.slice none 0 0) := bc l 1
  have dJ := Zae l.out 1
  have ce := m.out
  have cf := r.out
  have cg := s.out
  have ch := u.out
  have eg : w18.cell? ⟨b, 2, none⟩ = some (.slice none 0 0) := bc l 2
  have dK := Zae l.out 2
  have ci := m.out
  have cj := r.out
  have ck := s.out
  have cm := u.out
  refine skip_ (w1 := ?_) (by rfl) rfl ?_ ?_
  rotate_left
  ·go_simp
   rfl
  refine hK.out _ _ ⟨((Zdl (p := ⟨b, _, none⟩) m.out _).trans (((Zdl (p := ⟨b, _, none⟩) m.out _).trans (((Zdl (p := ⟨b, _, none⟩) m.out _).trans (hHeld.1)))))), ((Zdl (p := ⟨b, _, none⟩) m.out _).trans (((Zdl (p := ⟨b, _, none⟩) m.out _).trans (((Zdl (p := ⟨b, _, none⟩) m.out _).trans (hHeld.2))))))⟩ (fun hHeld => ?_)
  clear hK K
  refine Zas (i := 10) (N := some 5) (Zap HT_.out (by kernel_rfl)) ?_
  refine done_ (Zcs HT_.out (by kernel_rfl)) ?_
  have dL := s.out
  have dM := m.out
  have dN := u.out
  have dO := r.out
  have cn : w18.cell? ⟨b, 0, none⟩ = some (.int .i64 0) := bc l 0
  have co : w18.cell? ⟨b, 1, none⟩ = some (.slice none 0 0) := bc l 1
  have cp : w18.cell? ⟨b, 2, none⟩ = some (.slice none 0 0) := bc l 2
  have cq := Zae l.out 0
  have cr := Zae l.out 1
  have ct := Zae l.out 2
  try go_wp2_with (first | ((with_reducible refine Zax (f := 58) rfl ?_); refine Zbi (some 22) Tryd.func58 #[.agg #[.int .i64 y, .slice ao B.length aj, .slice ax D.length ap]] ?_; (with_reducible refine (Zag.calls k y _ _ B _ _ D aB aI aK aL aM _ ?side1 ?side2 ?side3 ?side4 A6.out).mono ?_); (case side1 => refine (yA (e := 22) (base := w.heap.size) (ok := fun k_ => (some k_ ≠ (aw : Value).ownBlock ∧ some k_ ≠ (W : Value).ownBlock)) (n := B.length) (c := aj) ?_).2.2; exact (by (with_reducible repeat (first | apply zL | apply zM | apply zH)); exact (zG (zE (p := ⟨b, 2, none⟩) (zE (p := ⟨b, 1, none⟩) (zE (p := ⟨b, 0, none⟩) (zX x.out l.out (by decide)) (fun _ hk => hk.2) (.int .i64 y)) (fun _ hk => hk.2) (.slice ao B.length aj)) (fun _ hk => hk.2) (.slice ax D.length ap)) (fun _ h_ => h_.1)))); (case side2 => exact (yA x.out).2.1); (case side3 => refine (zJ (e := 4) (base := w.heap.size) (ok := fun k_ => True) (n := D.length) (c := ap) ?_).2.2; exact (by (with_reducible repeat (first | apply zC | apply zD | apply zA)); exact (zB (zF (p := ⟨b, 2, none⟩) (zF (p := ⟨b, 1, none⟩) (zF (p := ⟨b, 0, none⟩) (zV z.out l.out (by decide)) (fun _ hk => hk.2) (.int .i64 y)) (fun _ hk => hk.2) (.slice ao B.length aj)) (fun _ hk => hk.2) (.slice ax D.length ap)) (fun _ h_ => h_.1)))); (case side4 => exact (zJ z.out).2.1); rintro e er ⟨bQ, rfl, I, hb⟩; refine ⟨_, rfl, ?_⟩; replace z := mA (zK (by (with_reducible repeat (first | apply zC | apply zD | apply zA)); exact (zB (zF (p := ⟨b, 2, none⟩) (zF (p := ⟨b, 1, none⟩) (zF (p := ⟨b, 0, none⟩) (zV z.out l.out (by decide)) (fun _ hk => hk.2) (.int .i64 y)) (fun _ hk => hk.2) (.slice ao B.length aj)) (fun _ hk => hk.2) (.slice ax D.length ap)) (fun _ h_ => h_.1))) hb); have az := mA (yL (yM (yM (yM I (yS (by (with_reducible repeat (first | apply zL | apply zM | apply zH)); exact (zG (zE (p := ⟨b, 2, none⟩) (zE (p := ⟨b, 1, none⟩) (zE (p := ⟨b, 0, none⟩) (zX q.out l.out (by decide)) (fun _ hk => hk.2) (.int .i64 y)) (fun _ hk => hk.2) (.slice ao B.length aj)) (fun _ hk => hk.2) (.slice ax D.length ap)) (fun _ h_ => h_.1))))) (yS (by (with_reducible repeat (first | apply zL | apply zM | apply zH)); exact (zG (zE (p := ⟨b, 2, none⟩) (zE (p := ⟨b, 1, none⟩) (zE (p := ⟨b, 0, none⟩) (zX x.out l.out (by decide)) (fun _ hk => hk.2) (.int .i64 y)) (fun _ hk => hk.2) (.slice ao B.length aj)) (fun _ hk => hk.2) (.slice ax D.length ap)) (fun _ h_ => h_.1))))) (zI (by (with_reducible repeat (first | apply zC | apply zD | apply zA)); exact (zB (zF (p := ⟨b, 2, none⟩) (zF (p := ⟨b, 1, none⟩) (zF (p := ⟨b, 0, none⟩) (zV G.out l.out (by decide)) (fun _ hk => hk.2) (.int .i64 y)) (fun _ hk => hk.2) (.slice ao B.length aj)) (fun _ hk => hk.2) (.slice ax D.length ap)) (fun _ h_ => h_.1))))) (Zaj (bW))); replace q := mA (yQ (by (with_reducible repeat (first | apply zL | apply zM | apply zH)); exact (zG (zE (p := ⟨b, 2, none⟩) (zE (p := ⟨b, 1, none⟩) (zE (p := ⟨b, 0, none⟩) (zX q.out l.out (by decide)) (fun _ hk => hk.2) (.int .i64 y)) (fun _ hk => hk.2) (.slice ao B.length aj)) (fun _ hk => hk.2) (.slice ax D.length ap)) (fun _ h_ => h_.1))) (yV I) hb); replace x := mA (yQ (by (with_reducible repeat (first | apply zL | apply zM | apply zH)); exact (zG (zE (p := ⟨b, 2, none⟩) (zE (p := ⟨b, 1, none⟩) (zE (p := ⟨b, 0, none⟩) (zX x.out l.out (by decide)) (fun _ hk => hk.2) (.int .i64 y)) (fun _ hk => hk.2) (.slice ao B.length aj)) (fun _ hk => hk.2) (.slice ax D.length ap)) (fun _ h_ => h_.1))) (yV I) hb); replace G := mA (zK (by (with_reducible repeat (first | apply zC | apply zD | apply zA)); exact (zB (zF (p := ⟨b, 2, none⟩) (zF (p := ⟨b, 1, none⟩) (zF (p := ⟨b, 0, none⟩) (zV G.out l.out (by decide)) (fun _ hk => hk.2) (.int .i64 y)) (fun _ hk => hk.2) (.slice ao B.length aj)) (fun _ hk => hk.2) (.slice ax D.length ap)) (fun _ h_ => h_.1))) hb); replace a := mA (Zbd (g := E) (o := .cells #[.int .i64 v, .slice L A.length M] 30 (0, 0)) (by (with_reducible repeat (first | refine Zad ?_ _ | refine Zaa ?_ | refine Zab ?_ _)); refine Zao ?_ m.out _; (with_reducible repeat (first | refine Zad ?_ _ | refine Zaa ?_ | refine Zab ?_ _)); refine Zao ?_ m.out _; (with_reducible repeat (first | refine Zad ?_ _ | refine Zaa ?_ | refine Zab ?_ _)); refine Zao ?_ m.out _; exact bP a.out) hb); replace d := mA (Zbd (g := J) (o := .cells #[.int .i64 0, .int .i64 0, .int .i64 0, .slice none 0 0] 39 (0, 0)) (by (with_reducible repeat (first | refine Zad ?_ _ | refine Zaa ?_ | refine Zab ?_ _)); refine Zao ?_ r.out _; (with_reducible repeat (first | refine Zad ?_ _ | refine Zaa ?_ | refine Zab ?_ _)); refine Zao ?_ r.out _; (with_reducible repeat (first | refine Zad ?_ _ | refine Zaa ?_ | refine Zab ?_ _)); refine Zao ?_ r.out _; exact bP d.out) hb); replace l := mA (Zbd (g := b) (o := .cells #[.int .i64 y, .slice ao B.length aj, .slice ax D.length ap] 66 (0, 0)) (by (with_reducible repeat (first | refine Zad ?_ _ | refine Zaa ?_ | refine Zab ?_ _)); refine Zau (cs := #[.int .i64 y, .slice ao B.length aj, .slice none 0 0]) ?_ 2 _ rfl; (with_reducible repeat (first | refine Zad ?_ _ | refine Zaa ?_ | refine Zab ?_ _)); refine Zau (cs := #[.int .i64 y, .slice none 0 0, .slice none 0 0]) ?_ 1 _ rfl; (with_reducible repeat (first | refine Zad ?_ _ | refine Zaa ?_ | refine Zab ?_ _)); refine Zau (cs := #[.int .i64 0, .slice none 0 0, .slice none 0 0]) ?_ 0 _ rfl; exact bP l.out) hb); replace HB := mA (Zaf (bW) hb); (try clear hb); (try clear hb2); (try clear hk); (try clear hi); (try clear I)) | ((with_reducible refine Zat (N := 6) rfl ?_); refine boxS (N := 6) (cs := #[.int .i64 0, .int .i64 0, .int .i64 0, .slice none 0 0]) (t := 39) ?_; intro aJ hg es hbox hb; replace q := mA (zW (sP q.out) hb); replace x := mA (zW (sP x.out) hb); replace z := mA (zK (rP z.out) hb); replace G := mA (zK (rP G.out) hb); replace az := mA (zW (sP az.out) hb); have aH := mA (hbox); have bI := geW (w := w) hg; have bJ := geW (w := w) hg; replace HB := mA (Zaf (bW) hb); have aC := mA (neB hg a); have aD := mA (neC hg a); replace a := mA (blkB a.out hb); have P := mA (neB hg d); have aE := mA (neC hg d); replace d := mA (blkB d.out hb); have aF := mA (neB hg l); have aG := mA (neC hg l); replace l := mA (blkB l.out hb); clear hb hbox hg; have dP := aD.out; have dQ := aC.out; have dR := aE.out; have dS := P.out; have dU := aG.out; have dV := aF.out; obtain ⟨cu, cv, cw, cx⟩ := Zbl aH.out; obtain ⟨cy, cz, cA, cB⟩ := frz4 aH.out; obtain ⟨eh, ei, bR⟩ := yE az.out; subst bR; obtain ⟨cC, cD, cE, cF⟩ := Zbl d.out; obtain ⟨cG, cH, cI, cJ⟩ := frz4 d.out))
  refine bodyPost_ret (Zdh rfl _ _ J 39 #[.int .i64 0, .int .i64 0, .int .i64 0, .slice none 0 0] (0, 0) _ rfl (by (with_reducible repeat (first | refine Zad ?_ _ | refine Zaa ?_ | refine Zab ?_ _)); refine Zau (cs := #[.int .i64 0, .int .i64 0, .int .i64 0, .slice none 0 0]) ?_ 3 _ rfl; (with_reducible repeat (first | refine Zad ?_ _ | refine Zaa ?_ | refine Zab ?_ _)); refine Zau (cs := #[.int .i64 0, .int .i64 0, .int .i64 0, .slice none 0 0]) ?_ 2 _ rfl; (with_reducible repeat (first | refine Zad ?_ _ | refine Zaa ?_ | refine Zab ?_ _)); refine Zau (cs := #[.int .i64 0, .int .i64 0, .int .i64 0, .slice none 0 0]) ?_ 1 _ rfl; (with_reducible repeat (first | refine Zad ?_ _ | refine Zaa ?_ | refine Zab ?_ _)); refine Zau (cs := #[.int .i64 0, .int .i64 0, .int .i64 0, .slice none 0 0]) ?_ 0 _ rfl; (with_reducible repeat (first | refine Zad ?_ _ | refine Zaa ?_ | refine Zab ?_ _)); refine Zao ?_ P.out _; (with_reducible repeat (first | refine Zad ?_ _ | refine Zaa ?_ | refine Zab ?_ _)); refine Zao ?_ P.out _; (with_reducible repeat (first | refine Zad ?_ _ | refine Zaa ?_ | refine Zab ?_ _)); refine Zao ?_ P.out _; (with_reducible repeat (first | refine Zad ?_ _ | refine Zaa ?_ | refine Zab ?_ _)); refine Zao ?_ P.out _; exact bP d.out) Tryd.underlying39 rfl (by kernel_rfl)) rfl ?_
  exact ⟨_, eW, by first | exact yU _ _ _ _ _ | exact yW _ _ _ _ _ | exact yX _ _ _ _ _ | exact yT _ _ _ _ _ | exact yR _ _ _ _ _, bW⟩
 rw [if_neg c7] at H
 have bO : decide (16 < aM) = false := dF c7
 clear c7
 simp only [Option.some.injEq, Prod.mk.injEq] at H
 obtain ⟨rfl, rfl, rfl, rfl, rfl⟩ := H
 go_enter Tryd.func17, Tryd.ntmps17
 try go_wp2_with (first | ((with_reducible refine Zat (N := 1) rfl ?_); refine boxS (N := 1) (cs := #[.int .i64 v, .slice L A.length M]) (t := 30) ?_; intro E hg et hbox hb; have a := mA (hbox); have br := geW (w := w) hg; have bs := geW (w := w) hg; replace HB := mA (Zaf (bW) hb); clear hb hbox hg) | ((with_reducible refine Zat (N := 2) rfl ?_); refine boxS (N := 2) (cs := #[.int .i64 0, .int .i64 0, .int .i64 0, .slice none 0 0]) (t := 39) ?_; intro J hg eu hbox hb; have d := mA (hbox); have bu := geW (w := w) hg; have bv := geW (w := w) hg; replace HB := mA (Zaf (bW) hb); have al := mA (neB hg a); have am := mA (neC hg a); replace a := mA (blkB a.out hb); clear hb hbox hg; have dW := al.out; have dX := am.out; obtain ⟨cK, cL⟩ := Zcj a.out; obtain ⟨cM, cN⟩ := frz2 a.out) | ((with_reducible refine Zax (f := 55) rfl ?_); refine Zbi (some 9) Tryd.func55 #[.agg #[.int .i64 v, .slice L A.length M]] ?_; (with_reducible refine (Za7.calls k v _ _ A true _ ?side1 ?side2 A2.out).mono ?_); (case side1 => exact cP (zQ au.out HB.out)); (case side2 => exact av.out); rintro e dA ⟨rfl, hb⟩; refine ⟨_, rfl, ?_⟩; replace a := mA (blkB a.out hb); replace d := mA (blkB d.out hb); replace HB := mA (Zaf (bW) hb); (try clear hb); (try clear hb2); (try clear hk); (try clear hi)))
 replace a := mA (Zaa a.out)
 replace d := mA (Zaa d.out)
 replace HB := mA (Za1 HB.out)
 refine Zck (n := 11) (S := fun w' => w'.cell? ⟨E, 0, none⟩ = some (.int .i64 v) ∧ w'.cell? ⟨E, 1, none⟩ = some (.slice L A.length M)) (ds := []) #[false, false, false, false, false, false, false, false, false, false, false] (by kernel_rfl) rfl rfl ⟨bc a 0, bc a 1⟩ (fun hHeld => ?_); refine Zb5 Za8.tab3 Za8.bits3 (fun HT_ HW_ => ?_)
 generalize dA.drew = w40 at a d HB hHeld ⊢
 refine Zas (i := 1) (N := some 14) (Zap HT_.out (by kernel_rfl)) ?_
 refine Zbg (i := 0) (N := some 13) (Za0 HT_.out HW_.out (by kernel_rfl)) hHeld ?_
 refine Zbg (i := 2) (N := some 15) (Za0 HT_.out HW_.out (by kernel_rfl)) hHeld ?_
 refine join_ (σ := Value × Value × Value × Value × Nat) 2 #[true, true, true, true, true, true, true, true, true, false, false] (fun s_ => [(16, .agg #[.int .i64 X, .int .i64 Y, .int .i64 aa, s_.1]), (17, .tuple #[.agg #[.int .i64 y, s_.2.1, s_.2.2.1], s_.2.2.2.1]), (4, .pointer (some ⟨s_.2.2.2.2, 0, none⟩)), (12, .tuple #[.agg #[.int .i64 y, s_.2.1, s_.2.2.1], s_.2.2.2.1]), (18, .agg #[.int .i64 y, s_.2.1, s_.2.2.1]), (19, s_.2.2.2.1)]) (fun s_ w' => (w'.cell? ⟨E, 0, none⟩ = some (.int .i64 v) ∧ w'.cell? ⟨E, 1, none⟩ = some (.slice L A.length M)) ∧ (Kd.S (Kd.slice 2 (Kd.int .i64)) 22 w' w.heap.size (fun k_ => some k_ ≠ (s_.2.1 : Value).ownBlock ∧ some k_ ≠ (s_.2.2.2.1 : Value).ownBlock) s_.1 O) ∧ (Kd.S (Kd.slice 2 (Kd.int .i64)) 22 w' w.heap.size (fun k_ => some k_ ≠ (s_.1 : Value).ownBlock ∧ some k_ ≠ (s_.2.2.2.1 : Value).ownBlock) s_.2.1 B) ∧ (Kd.R Kd.bool 4 w' w.heap.size (fun _ => True) s_.2.2.1 D) ∧ (Kd.R (Kd.int .i64) 2 w' w.heap.size (fun _ => True) s_.2.2.2.1 aA) ∧ (w'.heap[E]? = some (.cells #[.int .i64 v, .slice L A.length M] 30 (0, 0))) ∧ (w'.heap[J]? = some (.cells #[.int .i64 0, .int .i64 0, .int .i64 0, .slice none 0 0] 39 (0, 0))) ∧ (w'.heap[s_.2.2.2.2]? = some (.cells #[.int .i64 0, .slice none 0 0, .slice none 0 0] 66 (0, 0))) ∧ (w.heap.size ≤ s_.2.2.2.2) ∧ (w.heap.size ≤ s_.2.2.2.2) ∧ (E ≠ s_.2.2.2.2) ∧ (s_.2.2.2.2 ≠ E) ∧ (J ≠ s_.2.2.2.2) ∧ (s_.2.2.2.2 ≠ J) ∧ (Below w.heap.size w w')) ?_ ?_
 rotate_left
 ·intro hCont
  refine two_ (i := 3) (j := 8) (Ni := some 16) (Nj := some 4) #[true, true, true, true, false, false, false, false, false, false, false] #[true, true, true, false, false, false, false, false, true, false, false] rfl rfl rfl rfl (two_of HT_.out (by kernel_rfl)) (by decide) (by decide) (fun K hK => ?_) (fun K hK => ?_); rotate_left
  ·skip
   refine box_step ?hg (N := 4) ?hd (cs := #[.int .i64 0, .slice none 0 0, .slice none 0 0]) (t := 66) ?hr ?_; (case hd => rfl); (case hg => rfl); (case hr => first | (go_simp; done) | (go_simp; rfl))
   intro b hg dB hbox hb
   have l := mA (hbox)
   have ad := geW (w := w) hg
   have ae := geW (w := w) hg
   replace HB := mA (Zaf (bW) hb)
   have m := mA (neB hg a)
   have s := mA (neC hg a)
   replace a := mA (blkB a.out hb)
   have r := mA (neB hg d)
   have u := mA (neC hg d)
   replace d := mA (blkB d.out hb)
   clear hb hbox hg
   refine hK.out _ _ ⟨bc a 0, bc a 1⟩ (fun hHeld => ?_)
   clear hK K
   refine putS 4 ?_
   refine one_ (i := 3) (N := some 16) #[true, true, true, true, false, false, false, false, true, false, false] rfl rfl (Zbe HT_.out (by kernel_rfl)) (by decide) (fun K hK => ?_)
   refine goes_ Tryd.func57 (by kernel_rfl) rfl #[.int .i64 v] (by rfl) rfl rfl (by (try simp only [List.map_toArray, List.map_cons, List.map_nil]); first | done | rfl | (simp only [List.length_drop, List.length_take]; rfl)) ?_
   with_reducible refine (Zdd.calls v X Y aa O _ A4.out).mono ?_
   rintro e dC ⟨aw, rfl, I, hb⟩
   refine ⟨_, rfl, ?_⟩
   have q := mA (yL I (Zaj (bW)))
   replace a := mA (blkB a.out hb)
   replace d := mA (blkB d.out hb)
   replace l := mA (blkB l.out hb)
   replace HB := mA (Zaf (bW) hb)
   (try clear hb)
   (try clear hb2)
   (try clear hk)
   (try clear hi)
   (try clear I)
   obtain ⟨aY, aZ, a0⟩ := yE q.out
   (first | subst a0 | (injection a0 with T ag U; have ah := T.symm; have ai := U.symm; clear T ag U; subst ah; subst ai))
   refine hK.out _ _ ⟨bc a 0, bc a 1⟩ (fun hHeld => ?_)
   clear hK K
   refine putS 16 ?_
   refine one_ (i := 4) (N := some 17) #[true, true, true, true, true, false, false, false, true, false, false] rfl rfl (Zbe HT_.out (by kernel_rfl)) (by decide) (fun K hK => ?_)
   refine goes_ Tryd.func56 (by kernel_rfl) rfl #[.agg #[.int .i64 v, .slice L A.length M], .agg #[.int .i64 X, .int .i64 Y, .int .i64 aa, .slice aY O.length aZ]] (by rfl) rfl rfl (by (try simp only [List.map_toArray, List.map_cons, List.map_nil]); first | done | rfl | (simp only [List.length_drop, List.length_take]; rfl)) ?_
   with_reducible refine (Zak.calls k v _ _ A X Y aa _ _ O y B D aA _ ?side1 ?side2 ?side3 ?side4 A5.out).mono ?_
   (case side1 => exact cP (zQ au.out HB.out))
   (case side2 => exact av.out)
   (case side3 => exact cP ((yA q.out).2.2))
   (case side4 => exact (yA q.out).2.1)
   rintro e bM ⟨ab, af, W, rfl, I, an, ac, hb⟩
   refine ⟨_, rfl, ?_⟩
   have x := mA (yL (yM I (yS (sP q.out))) (Zaj (bW)))
   replace q := mA (zG (yZ (yZ (Kd.S_old (sP q.out) hb) (yV I)) (zU ac)) (fun _ h_ => h_.1))
   have z := mA (zS an (Zaj (bW)))
   have G := mA (zS ac (Zaj (bW)))
   replace a := mA (blkB a.out hb)
   replace d := mA (blkB d.out hb)
   replace l := mA (blkB l.out hb)
   replace HB := mA (Zaf (bW) hb)
   (try clear hb)
   (try clear hb2)
   (try clear hk)
   (try clear hi)
   (try clear I)
   (try clear an)
   (try clear ac)
   refine hK.out _ _ ⟨bc a 0, bc a 1⟩ (fun hHeld => ?_)
   clear hK K
   refine putS 17 ?_
   refine Zas (i := 5) (N := some 12) (Zap HT_.out (by kernel_rfl)) ?_
   refine Zas (i := 6) (N := some 18) (Zap HT_.out (by kernel_rfl)) ?_
   refine Zas (i := 7) (N := some 19) (Zap HT_.out (by kernel_rfl)) ?_
   exact norm_ (by simp only [Zcy, Act.put, List.setIfInBounds_toArray, List.set_cons_zero, List.set_cons_succ]) (hCont (.slice aY O.length aZ, ab, af, W, b) _ ⟨hHeld, (by (with_reducible repeat (first | apply zL | apply zM | apply zH)); exact zG q.out (fun _ hk => ⟨hk.1.2, hk.2⟩)), (by (with_reducible repeat (first | apply zL | apply zM | apply zH)); exact zG x.out (fun _ hk => ⟨hk.2, hk.1⟩)), (rP z.out), (rP G.out), (bP a.out), (bP d.out), (bP l.out), ad.out, ae.out, m.out, s.out, r.out, u.out, (bW)⟩)
  skip
  refine goes_ Tryd.func57 (by kernel_rfl) rfl #[.int .i64 v] (by rfl) rfl rfl (by (try simp only [List.map_toArray, List.map_cons, List.map_nil]); first | done | rfl | (simp only [List.length_drop, List.length_take]; rfl)) ?_
  with_reducible refine (Zdd.calls v X Y aa O _ A4.out).mono ?_
  rintro e dB ⟨aw, rfl, I, hb⟩
  refine ⟨_, rfl, ?_⟩
  have q := mA (yL I (Zaj (bW)))
  replace a := mA (blkB a.out hb)
  replace d := mA (blkB d.out hb)
  replace HB := mA (Zaf (bW) hb)
  (try clear hb)
  (try clear hb2)
  (try clear hk)
  (try clear hi)
  (try clear I)
  obtain ⟨bD, bE, bF⟩ := yE q.out
  (first | subst bF | (injection bF with T ag U; have ah := T.symm; have ai := U.symm; clear T ag U; subst ah; subst ai))
  refine hK.out _ _ ⟨bc a 0, bc a 1⟩ (fun hHeld => ?_)
  clear hK K
  refine putS 16 ?_
  refine two_ (i := 4) (j := 8) (Ni := some 17) (Nj := some 4) #[true, true, true, true, true, false, false, false, false, false, false] #[true, true, true, true, false, false, false, false, true, false, false] rfl rfl rfl rfl (two_of HT_.out (by kernel_rfl)) (by decide) (by decide) (fun K hK => ?_) (fun K hK => ?_)
  ·skip
   refine goes_ Tryd.func56 (by kernel_rfl) rfl #[.agg #[.int .i64 v, .slice L A.length M], .agg #[.int .i64 X, .int .i64 Y, .int .i64 aa, .slice bD O.length bE]] (by rfl) rfl rfl (by (try simp only [List.map_toArray, List.map_cons, List.map_nil]); first | done | rfl | (simp only [List.length_drop, List.length_take]; rfl)) ?_
   with_reducible refine (Zak.calls k v _ _ A X Y aa _ _ O y B D aA _ ?side1 ?side2 ?side3 ?side4 A5.out).mono ?_
   (case side1 => exact cP (zQ au.out HB.out))
   (case side2 => exact av.out)
   (case side3 => exact cP ((yA q.out).2.2))
   (case side4 => exact (yA q.out).2.1)
   rintro e ev ⟨ab, af, W, rfl, I, an, ac, hb⟩
   refine ⟨_, rfl, ?_⟩
   have x := mA (yL (yM I (yS (sP q.out))) (Zaj (bW)))
   replace q := mA (zG (yZ (yZ (Kd.S_old (sP q.out) hb) (yV I)) (zU ac)) (fun _ h_ => h_.1))
   have z := mA (zS an (Zaj (bW)))
   have G := mA (zS ac (Zaj (bW)))
   replace a := mA (blkB a.out hb)
   replace d := mA (blkB d.out hb)
   replace HB := mA (Zaf (bW) hb)
   (try clear hb)
   (try clear hb2)
   (try clear hk)
   (try clear hi)
   (try clear I)
   (try clear an)
   (try clear ac)
   refine hK.out _ _ ⟨bc a 0, bc a 1⟩ (fun hHeld => ?_)
   clear hK K
   refine putS 17 ?_
   refine Zas (i := 5) (N := some 12) (Zap HT_.out (by kernel_rfl)) ?_
   refine Zas (i := 6) (N := some 18) (Zap HT_.out (by kernel_rfl)) ?_
   refine Zas (i := 7) (N := some 19) (Zap HT_.out (by kernel_rfl)) ?_
   refine one_ (i := 8) (N := some 4) #[true, true, true, true, true, true, true, true, true, false, false] rfl rfl (Zbe HT_.out (by kernel_rfl)) (by decide) (fun K hK => ?_)
   refine box_step ?hg (N := 4) ?hd (cs := #[.int .i64 0, .slice none 0 0, .slice none 0 0]) (t := 66) ?hr ?_; (case hd => rfl); (case hg => rfl); (case hr => first | (go_simp; done) | (go_simp; rfl))
   intro b hg bM hbox hb
   replace q := mA (zW (sP q.out) hb)
   replace x := mA (zW (sP x.out) hb)
   replace z := mA (zK (rP z.out) hb)
   replace G := mA (zK (rP G.out) hb)
   have l := mA (hbox)
   have ad := geW (w := w) hg
   have ae := geW (w := w) hg
   replace HB := mA (Zaf (bW) hb)
   have m := mA (neB hg a)
   have s := mA (neC hg a)
   replace a := mA (blkB a.out hb)
   have r := mA (neB hg d)
   have u := mA (neC hg d)
   replace d := mA (blkB d.out hb)
   clear hb hbox hg
   refine hK.out _ _ ⟨bc a 0, bc a 1⟩ (fun hHeld => ?_)
   clear hK K
   refine putS 4 ?_
   exact norm_ (by simp only [Zcy, Act.put, List.setIfInBounds_toArray, List.set_cons_zero, List.set_cons_succ]) (hCont (.slice bD O.length bE, ab, af, W, b) _ ⟨hHeld, (by (with_reducible repeat (first | apply zL | apply zM | apply zH)); exact zG q.out (fun _ hk => ⟨hk.1.2, hk.2⟩)), (by (with_reducible repeat (first | apply zL | apply zM | apply zH)); exact zG x.out (fun _ hk => ⟨hk.2, hk.1⟩)), (rP z.out), (rP G.out), (bP a.out), (bP d.out), (bP l.out), ad.out, ae.out, m.out, s.out, r.out, u.out, (bW)⟩)
  skip
  refine box_step ?hg (N := 4) ?hd (cs := #[.int .i64 0, .slice none 0 0, .slice none 0 0]) (t := 66) ?hr ?_; (case hd => rfl); (case hg => rfl); (case hr => first | (go_simp; done) | (go_simp; rfl))
  intro b hg dC hbox hb
  replace q := mA (zW (sP q.out) hb)
  have l := mA (hbox)
  have ad := geW (w := w) hg
  have ae := geW (w := w) hg
  replace HB := mA (Zaf (bW) hb)
  have m := mA (neB hg a)
  have s := mA (neC hg a)
  replace a := mA (blkB a.out hb)
  have r := mA (neB hg d)
  have u := mA (neC hg d)
  replace d := mA (blkB d.out hb)
  clear hb hbox hg
  obtain ⟨aY, aZ, a0⟩ := yE q.out
  (first | subst a0 | (injection a0 with T ag U; have ah := T.symm; have ai := U.symm; clear T ag U; subst ah; subst ai))
  refine hK.out _ _ ⟨bc a 0, bc a 1⟩ (fun hHeld => ?_)
  clear hK K
  refine putS 4 ?_
  refine one_ (i := 4) (N := some 17) #[true, true, true, true, true, false, false, false, true, false, false] rfl rfl (Zbe HT_.out (by kernel_rfl)) (by decide) (fun K hK => ?_)
  refine goes_ Tryd.func56 (by kernel_rfl) rfl #[.agg #[.int .i64 v, .slice L A.length M], .agg #[.int .i64 X, .int .i64 Y, .int .i64 aa, .slice aY O.length aZ]] (by rfl) rfl rfl (by (try simp only [List.map_toArray, List.map_cons, List.map_nil]); first | done | rfl | (simp only [List.length_drop, List.length_take]; rfl)) ?_
  with_reducible refine (Zak.calls k v _ _ A X Y aa _ _ O y B D aA _ ?side1 ?side2 ?side3 ?side4 A5.out).mono ?_
  (case side1 => exact cP (zQ au.out HB.out))
  (case side2 => exact av.out)
  (case side3 => exact cP ((yA q.out).2.2))
  (case side4 => exact (yA q.out).2.1)
  rintro e bM ⟨ab, af, W, rfl, I, an, ac, hb⟩
  refine ⟨_, rfl, ?_⟩
  have x := mA (yL (yM I (yS (sP q.out))) (Zaj (bW)))
  replace q := mA (zG (yZ (yZ (Kd.S_old (sP q.out) hb) (yV I)) (zU ac)) (fun _ h_ => h_.1))
  have z := mA (zS an (Zaj (bW)))
  have G := mA (zS ac (Zaj (bW)))
  replace a := mA (blkB a.out hb)
  replace d := mA (blkB d.out hb)
  replace l := mA (blkB l.out hb)
  replace HB := mA (Zaf (bW) hb)
  (try clear hb)
  (try clear hb2)
  (try clear hk)
  (try clear hi)
  (try clear I)
  (try clear an)
  (try clear ac)
  refine hK.out _ _ ⟨bc a 0, bc a 1⟩ (fun hHeld => ?_)
  clear hK K
  refine putS 17 ?_
  refine Zas (i := 5) (N := some 12) (Zap HT_.out (by kernel_rfl)) ?_
  refine Zas (i := 6) (N := some 18) (Zap HT_.out (by kernel_rfl)) ?_
  refine Zas (i := 7) (N := some 19) (Zap HT_.out (by kernel_rfl)) ?_
  exact norm_ (by simp only [Zcy, Act.put, List.setIfInBounds_toArray, List.set_cons_zero, List.set_cons_succ]) (hCont (.slice aY O.length aZ, ab, af, W, b) _ ⟨hHeld, (by (with_reducible repeat (first | apply zL | apply zM | apply zH)); exact zG q.out (fun _ hk => ⟨hk.1.2, hk.2⟩)), (by (with_reducible repeat (first | apply zL | apply zM | apply zH)); exact zG x.out (fun _ hk => ⟨hk.2, hk.1⟩)), (rP z.out), (rP G.out), (bP a.out), (bP d.out), (bP l.out), ad.out, ae.out, m.out, s.out, r.out, u.out, (bW)⟩)
 rintro ⟨aw, ab, af, W, b⟩ w45 ⟨hS_, a1, a2, a3, a4, a5, a6, a7, a8, a9, ba, aQ, aR, aS, aT⟩
 have bb : Zac (Kd.S (Kd.slice 2 (Kd.int .i64)) 22 w45 w.heap.size (fun k_ => some k_ ≠ (ab : Value).ownBlock ∧ some k_ ≠ (W : Value).ownBlock) aw O) := ⟨a1⟩
 have bd : Zac (Kd.S (Kd.slice 2 (Kd.int .i64)) 22 w45 w.heap.size (fun k_ => some k_ ≠ (aw : Value).ownBlock ∧ some k_ ≠ (W : Value).ownBlock) ab B) := ⟨a2⟩
 have bf : Zac (Kd.R Kd.bool 4 w45 w.heap.size (fun _ => True) af D) := ⟨a3⟩
 have bg : Zac (Kd.R (Kd.int .i64) 2 w45 w.heap.size (fun _ => True) W aA) := ⟨a4⟩
 have bh : Zac (w45.heap[E]? = some (.cells #[.int .i64 v, .slice L A.length M] 30 (0, 0))) := ⟨a5⟩
 have bi : Zac (w45.heap[J]? = some (.cells #[.int .i64 0, .int .i64 0, .int .i64 0, .slice none 0 0] 39 (0, 0))) := ⟨a6⟩
 have bj : Zac (w45.heap[b]? = some (.cells #[.int .i64 0, .slice none 0 0, .slice none 0 0] 66 (0, 0))) := ⟨a7⟩
 have bk : Zac (w.heap.size ≤ b) := ⟨a8⟩
 have bl : Zac (w.heap.size ≤ b) := ⟨a9⟩
 have bm : Zac (E ≠ b) := ⟨ba⟩
 have aU : Zac (b ≠ E) := ⟨aQ⟩
 have aV : Zac (J ≠ b) := ⟨aR⟩
 have aW : Zac (b ≠ J) := ⟨aS⟩
 have aX : Zac (Below w.heap.size w w45) := ⟨aT⟩
 clear a d HB a1 a2 a3 a4 a5 a6 a7 a8 a9 ba aQ aR aS aT; have q := bb; have x := bd; have z := bf; have G := bg; have a := bh; have d := bi; have l := bj; have ad := bk; have ae := bl; have m := bm; have s := aU; have r := aV; have u := aW; have HB := aX; clear bb bd bf bg bh bi bj bk bl bm aU aV aW aX
 have hHeld : w45.cell? ⟨E, 0, none⟩ = some (.int .i64 v) ∧ w45.cell? ⟨E, 1, none⟩ = some (.slice L A.length M) := hS_
 obtain ⟨aq, ak, bG⟩ := yE x.out
 (first | subst bG | (injection bG with T ag U; have ah := T.symm; have ai := U.symm; clear T ag U; subst ah; subst ai))
 obtain ⟨ay, ar, bH⟩ := zP z.out
 (first | subst bH | (injection bH with T ag U; have ah := T.symm; have ai := U.symm; clear T ag U; subst ah; subst ai))
 refine norm_ (a' := ?_) ?_ ?_
 rotate_left
 ·simp only [Zcy, Act.put, List.setIfInBounds_toArray, List.set_cons_zero, List.set_cons_succ]
  rfl
 refine one_ (i := 9) (N := none) #[true, true, true, true, true, true, true, true, true, true, false] rfl rfl (Zbe HT_.out (by kernel_rfl)) (by decide) (fun K hK => ?_)
 have ej : w45.cell? ⟨b, 0, none⟩ = some (.int .i64 0) := bc l 0
 have dY := Zae l.out 0
 have cO := m.out
 have cQ := r.out
 have cR := s.out
 have cS := u.out
 have ek : w45.cell? ⟨b, 1, none⟩ = some (.slice none 0 0) := bc l 1
 have dZ := Zae l.out 1
 have cT := m.out
 have cU := r.out
 have cV := s.out
 have cW := u.out
 have el : w45.cell? ⟨b, 2, none⟩ = some (.slice none 0 0) := bc l 2
 have d0 := Zae l.out 2
 have cX := m.out
 have cY := r.out
 have cZ := s.out
 have c0 := u.out
 refine skip_ (w1 := ?_) (by rfl) rfl ?_ ?_
 rotate_left
 ·go_simp
  rfl
 refine hK.out _ _ ⟨((Zdl (p := ⟨b, _, none⟩) m.out _).trans (((Zdl (p := ⟨b, _, none⟩) m.out _).trans (((Zdl (p := ⟨b, _, none⟩) m.out _).trans (hHeld.1)))))), ((Zdl (p := ⟨b, _, none⟩) m.out _).trans (((Zdl (p := ⟨b, _, none⟩) m.out _).trans (((Zdl (p := ⟨b, _, none⟩) m.out _).trans (hHeld.2))))))⟩ (fun hHeld => ?_)
 clear hK K
 refine Zas (i := 10) (N := some 5) (Zap HT_.out (by kernel_rfl)) ?_
 refine done_ (Zcs HT_.out (by kernel_rfl)) ?_
 have d1 := s.out
 have d2 := m.out
 have d3 := u.out
 have d4 := r.out
 have c1 : w45.cell? ⟨b, 0, none⟩ = some (.int .i64 0) := bc l 0
 have da : w45.cell? ⟨b, 1, none⟩ = some (.slice none 0 0) := bc l 1
 have db : w45.cell? ⟨b, 2, none⟩ = some (.slice none 0 0) := bc l 2
 have dc := Zae l.out 0
 have dd := Zae l.out 1
 have de := Zae l.out 2
 try go_wp2_with (first | ((with_reducible refine Zax (f := 58) rfl ?_); refine Zbi (some 22) Tryd.func58 #[.agg #[.int .i64 y, .slice aq B.length ak, .slice ay D.length ar]] ?_; (with_reducible refine (Zag.calls k y _ _ B _ _ D aB aI aK aL aM _ ?side1 ?side2 ?side3 ?side4 A6.out).mono ?_); (case side1 => refine (yA (e := 22) (base := w.heap.size) (ok := fun k_ => (some k_ ≠ (aw : Value).ownBlock ∧ some k_ ≠ (W : Value).ownBlock)) (n := B.length) (c := ak) ?_).2.2; exact (by (with_reducible repeat (first | apply zL | apply zM | apply zH)); exact (zG (zE (p := ⟨b, 2, none⟩) (zE (p := ⟨b, 1, none⟩) (zE (p := ⟨b, 0, none⟩) (zX x.out l.out (by decide)) (fun _ hk => hk.2) (.int .i64 y)) (fun _ hk => hk.2) (.slice aq B.length ak)) (fun _ hk => hk.2) (.slice ay D.length ar)) (fun _ h_ => h_.1)))); (case side2 => exact (yA x.out).2.1); (case side3 => refine (zJ (e := 4) (base := w.heap.size) (ok := fun k_ => True) (n := D.length) (c := ar) ?_).2.2; exact (by (with_reducible repeat (first | apply zC | apply zD | apply zA)); exact (zB (zF (p := ⟨b, 2, none⟩) (zF (p := ⟨b, 1, none⟩) (zF (p := ⟨b, 0, none⟩) (zV z.out l.out (by decide)) (fun _ hk => hk.2) (.int .i64 y)) (fun _ hk => hk.2) (.slice aq B.length ak)) (fun _ hk => hk.2) (.slice ay D.length ar)) (fun _ h_ => h_.1)))); (case side4 => exact (zJ z.out).2.1); rintro e ew ⟨bQ, rfl, I, hb⟩; refine ⟨_, rfl, ?_⟩; replace z := mA (zK (by (with_reducible repeat (first | apply zC | apply zD | apply zA)); exact (zB (zF (p := ⟨b, 2, none⟩) (zF (p := ⟨b, 1, none⟩) (zF (p := ⟨b, 0, none⟩) (zV z.out l.out (by decide)) (fun _ hk => hk.2) (.int .i64 y)) (fun _ hk => hk.2) (.slice aq B.length ak)) (fun _ hk => hk.2) (.slice ay D.length ar)) (fun _ h_ => h_.1))) hb); have az := mA (yL (yM (yM (yM I (yS (by (with_reducible repeat (first | apply zL | apply zM | apply zH)); exact (zG (zE (p := ⟨b, 2, none⟩) (zE (p := ⟨b, 1, none⟩) (zE (p := ⟨b, 0, none⟩) (zX q.out l.out (by decide)) (fun _ hk => hk.2) (.int .i64 y)) (fun _ hk => hk.2) (.slice aq B.length ak)) (fun _ hk => hk.2) (.slice ay D.length ar)) (fun _ h_ => h_.1))))) (yS (by (with_reducible repeat (first | apply zL | apply zM | apply zH)); exact (zG (zE (p := ⟨b, 2, none⟩) (zE (p := ⟨b, 1, none⟩) (zE (p := ⟨b, 0, none⟩) (zX x.out l.out (by decide)) (fun _ hk => hk.2) (.int .i64 y)) (fun _ hk => hk.2) (.slice aq B.length ak)) (fun _ hk => hk.2) (.slice ay D.length ar)) (fun _ h_ => h_.1))))) (zI (by (with_reducible repeat (first | apply zC | apply zD | apply zA)); exact (zB (zF (p := ⟨b, 2, none⟩) (zF (p := ⟨b, 1, none⟩) (zF (p := ⟨b, 0, none⟩) (zV G.out l.out (by decide)) (fun _ hk => hk.2) (.int .i64 y)) (fun _ hk => hk.2) (.slice aq B.length ak)) (fun _ hk => hk.2) (.slice ay D.length ar)) (fun _ h_ => h_.1))))) (Zaj (bW))); replace q := mA (yQ (by (with_reducible repeat (first | apply zL | apply zM | apply zH)); exact (zG (zE (p := ⟨b, 2, none⟩) (zE (p := ⟨b, 1, none⟩) (zE (p := ⟨b, 0, none⟩) (zX q.out l.out (by decide)) (fun _ hk => hk.2) (.int .i64 y)) (fun _ hk => hk.2) (.slice aq B.length ak)) (fun _ hk => hk.2) (.slice ay D.length ar)) (fun _ h_ => h_.1))) (yV I) hb); replace x := mA (yQ (by (with_reducible repeat (first | apply zL | apply zM | apply zH)); exact (zG (zE (p := ⟨b, 2, none⟩) (zE (p := ⟨b, 1, none⟩) (zE (p := ⟨b, 0, none⟩) (zX x.out l.out (by decide)) (fun _ hk => hk.2) (.int .i64 y)) (fun _ hk => hk.2) (.slice aq B.length ak)) (fun _ hk => hk.2) (.slice ay D.length ar)) (fun _ h_ => h_.1))) (yV I) hb); replace G := mA (zK (by (with_reducible repeat (first | apply zC | apply zD | apply zA)); exact (zB (zF (p := ⟨b, 2, none⟩) (zF (p := ⟨b, 1, none⟩) (zF (p := ⟨b, 0, none⟩) (zV G.out l.out (by decide)) (fun _ hk => hk.2) (.int .i64 y)) (fun _ hk => hk.2) (.slice aq B.length ak)) (fun _ hk => hk.2) (.slice ay D.length ar)) (fun _ h_ => h_.1))) hb); replace a := mA (Zbd (g := E) (o := .cells #[.int .i64 v, .slice L A.length M] 30 (0, 0)) (by (with_reducible repeat (first | refine Zad ?_ _ | refine Zaa ?_ | refine Zab ?_ _)); refine Zao ?_ m.out _; (with_reducible repeat (first | refine Zad ?_ _ | refine Zaa ?_ | refine Zab ?_ _)); refine Zao ?_ m.out _; (with_reducible repeat (first | refine Zad ?_ _ | refine Zaa ?_ | refine Zab ?_ _)); refine Zao ?_ m.out _; exact bP a.out) hb); replace d := mA (Zbd (g := J) (o := .cells #[.int .i64 0, .int .i64 0, .int .i64 0, .slice none 0 0] 39 (0, 0)) (by (with_reducible repeat (first | refine Zad ?_ _ | refine Zaa ?_ | refine Zab ?_ _)); refine Zao ?_ r.out _; (with_reducible repeat (first | refine Zad ?_ _ | refine Zaa ?_ | refine Zab ?_ _)); refine Zao ?_ r.out _; (with_reducible repeat (first | refine Zad ?_ _ | refine Zaa ?_ | refine Zab ?_ _)); refine Zao ?_ r.out _; exact bP d.out) hb); replace l := mA (Zbd (g := b) (o := .cells #[.int .i64 y, .slice aq B.length ak, .slice ay D.length ar] 66 (0, 0)) (by (with_reducible repeat (first | refine Zad ?_ _ | refine Zaa ?_ | refine Zab ?_ _)); refine Zau (cs := #[.int .i64 y, .slice aq B.length ak, .slice none 0 0]) ?_ 2 _ rfl; (with_reducible repeat (first | refine Zad ?_ _ | refine Zaa ?_ | refine Zab ?_ _)); refine Zau (cs := #[.int .i64 y, .slice none 0 0, .slice none 0 0]) ?_ 1 _ rfl; (with_reducible repeat (first | refine Zad ?_ _ | refine Zaa ?_ | refine Zab ?_ _)); refine Zau (cs := #[.int .i64 0, .slice none 0 0, .slice none 0 0]) ?_ 0 _ rfl; exact bP l.out) hb); replace HB := mA (Zaf (bW) hb); (try clear hb); (try clear hb2); (try clear hk); (try clear hi); (try clear I)) | ((with_reducible refine Zat (N := 6) rfl ?_); refine boxS (N := 6) (cs := #[.int .i64 0, .int .i64 0, .int .i64 0, .slice none 0 0]) (t := 39) ?_; intro aJ hg ey hbox hb; replace q := mA (zW (sP q.out) hb); replace x := mA (zW (sP x.out) hb); replace z := mA (zK (rP z.out) hb); replace G := mA (zK (rP G.out) hb); replace az := mA (zW (sP az.out) hb); have aH := mA (hbox); have bI := geW (w := w) hg; have bJ := geW (w := w) hg; replace HB := mA (Zaf (bW) hb); have aC := mA (neB hg a); have aD := mA (neC hg a); replace a := mA (blkB a.out hb); have P := mA (neB hg d); have aE := mA (neC hg d); replace d := mA (blkB d.out hb); have aF := mA (neB hg l); have aG := mA (neC hg l); replace l := mA (blkB l.out hb); clear hb hbox hg; have d5 := aD.out; have d6 := aC.out; have d7 := aE.out; have d8 := P.out; have d9 := aG.out; have ea := aF.out; obtain ⟨df, dg, dh, di⟩ := Zbl aH.out; obtain ⟨dj, dk, dl, dm⟩ := frz4 aH.out; obtain ⟨bn, bo, bS⟩ := yE az.out; subst bS; obtain ⟨dn, dp, dq, dr⟩ := Zbl d.out; obtain ⟨dt, du, dv, dw⟩ := frz4 d.out))
 refine bodyPost_ret (Zdh rfl _ _ J 39 #[.int .i64 aB, .int .i64 aI, .int .i64 aK, .slice bn aL.length bo] (0, 0) _ rfl (by (with_reducible repeat (first | refine Zad ?_ _ | refine Zaa ?_ | refine Zab ?_ _)); refine Zau (cs := #[.int .i64 aB, .int .i64 aI, .int .i64 aK, .slice none 0 0]) ?_ 3 _ rfl; (with_reducible repeat (first | refine Zad ?_ _ | refine Zaa ?_ | refine Zab ?_ _)); refine Zau (cs := #[.int .i64 aB, .int .i64 aI, .int .i64 0, .slice none 0 0]) ?_ 2 _ rfl; (with_reducible repeat (first | refine Zad ?_ _ | refine Zaa ?_ | refine Zab ?_ _)); refine Zau (cs := #[.int .i64 aB, .int .i64 0, .int .i64 0, .slice none 0 0]) ?_ 1 _ rfl; (with_reducible repeat (first | refine Zad ?_ _ | refine Zaa ?_ | refine Zab ?_ _)); refine Zau (cs := #[.int .i64 0, .int .i64 0, .int .i64 0, .slice none 0 0]) ?_ 0 _ rfl; (with_reducible repeat (first | refine Zad ?_ _ | refine Zaa ?_ | refine Zab ?_ _)); refine Zao ?_ P.out _; (with_reducible repeat (first | refine Zad ?_ _ | refine Zaa ?_ | refine Zab ?_ _)); refine Zao ?_ P.out _; (with_reducible repeat (first | refine Zad ?_ _ | refine Zaa ?_ | refine Zab ?_ _)); refine Zao ?_ P.out _; (with_reducible repeat (first | refine Zad ?_ _ | refine Zaa ?_ | refine Zab ?_ _)); refine Zao ?_ P.out _; exact bP d.out) Tryd.underlying39 rfl (by kernel_rfl)) rfl ?_
 exact ⟨_, eW, by (with_reducible repeat (first | apply zL | apply zM | apply zH)); exact zG (zE (p := ⟨J, 3, none⟩) (zE (p := ⟨J, 2, none⟩) (zE (p := ⟨J, 1, none⟩) (zE (p := ⟨J, 0, none⟩) (zE (p := ⟨aJ, 3, none⟩) (zE (p := ⟨aJ, 2, none⟩) (zE (p := ⟨aJ, 1, none⟩) (zE (p := ⟨aJ, 0, none⟩) (zX (zX az.out aH.out (by decide)) d.out (by decide)) (fun _ hk => hk.1.2) (.int .i64 aB)) (fun _ hk => hk.1.2) (.int .i64 aI)) (fun _ hk => hk.1.2) (.int .i64 aK)) (fun _ hk => hk.1.2) (.slice bn aL.length bo)) (fun _ hk => hk.2) (.int .i64 aB)) (fun _ hk => hk.2) (.int .i64 aI)) (fun _ hk => hk.2) (.int .i64 aK)) (fun _ hk => hk.2) (.slice bn aL.length bo)) (fun _ hk => trivial), bW⟩
end Go.Proofs.YtjdkedmdeajmgaaDoor.P
end M0
