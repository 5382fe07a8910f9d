import Derived.Test.YtgindgodfcfgkaaCFnExactResidualOf3
section M0
namespace Go.Proofs.Ytgindgodfcfgkaa.P
open Go.RowKit Go.Proofs.Ytgindgodfcfgkaa.Sh Go.Proofs.YtgindgodfcfgkaaW.PrintWords Go.Proofs.YtgindgodfcfgkaaW.PrintLast Go.Proofs.YtgindgodfcfgkaaW.PrintMore
open Kd
attribute [local go_sem] Zcc Zcd Zck Zcl Zb2 Zb3 Zce Zcb   -- for this text's walks alone
set_option linter.unusedVariables false
set_option linter.unusedSimpArgs false
mutual
def Zai.l0 : Nat → List Bool → List Bool → Bool → Int → Int → List Bool → List (List Int) → Option (List Bool)
 | 0, _, _, _, _, _, _, _ => none
 | k + 1, x3, x4, x5, b, c, d, a => if x5 = true then (Zai.l1 k x3 x4 false a (a.length : Int) 0 b c d a) else (Zai.l3 k x3 x4 (x3.length : Int) 0)
def Zai.l1 : Nat → List Bool → List Bool → Bool → List (List Int) → Int → Int → Int → Int → List Bool → List (List Int) → Option (List Bool)
 | 0, _, _, _, _, _, _, _, _, _, _ => none
 | k + 1, x3, x4, x5, g, h, a, b, c, d, e => if a < h then (if 0 ≤ a then (if a < (g.length : Int) then (Zai.l2 k x3 x4 x5 a g h a (Zah g a) ((Zah g a).length : Int) 0 b c d e) else (none)) else (none)) else (Zai.l0 k x3 x4 x5 b c d e)
def Zai.l2 : Nat → List Bool → List Bool → Bool → Int → List (List Int) → Int → Int → List Int → Int → Int → Int → Int → List Bool → List (List Int) → Option (List Bool)
 | 0, _, _, _, _, _, _, _, _, _, _, _, _, _, _ => none
 | k + 1, x3, x4, x5, x6, h, i, j, g, l, a, b, c, d, e => if a < l then (if 0 ≤ a then (if a < (g.length : Int) then (if (rd g a) < 0 then (Zai.l2 k x3 x4 x5 x6 h i j g l (wrap64 (a + 1)) b c d e) else (if 0 ≤ x6 then (if x6 < (x3.length : Int) then (if rdOf false x3 x6 = true then (if 0 ≤ (rd g a) then (if (rd g a) < (x3.length : Int) then (Zai.j3 k x3 x4 x5 x6 (rd g a) h i j g l a (!(rdOf false x3 (rd g a))) b c d e) else (none)) else (none)) else (Zai.j3 k x3 x4 x5 x6 (rd g a) h i j g l a false b c d e)) else (none)) else (none))) else (none)) else (none)) else (Zai.l1 k x3 x4 x5 h i (wrap64 (j + 1)) b c d e)
def Zai.j3 : Nat → List Bool → List Bool → Bool → Int → Int → List (List Int) → Int → Int → List Int → Int → Int → Bool → Int → Int → List Bool → List (List Int) → Option (List Bool)
 | 0, _, _, _, _, _, _, _, _, _, _, _, _, _, _, _, _ => none
 | k + 1, x3, x4, x5, x6, x9, e, g, h, i, j, l, n, a, b, c, d => if n = true then (if 0 ≤ x9 then (if x9 < (x3.length : Int) then ((some (x3.set (x9 : Int).toNat true : List Bool)).bind fun m => (if x9 < (x4.length : Int) then (if rdOf false x4 x9 = true then (if 0 ≤ x6 then (if x6 < (x4.length : Int) then (if rdOf false x4 x6 = true then (Zai.l2 k m x4 true x6 e g h i j (wrap64 (l + 1)) a b c d) else (Zai.l2 k m (x4.set (x6 : Int).toNat true) true x6 e g h i j (wrap64 (l + 1)) a b c d)) else (none)) else (none)) else (Zai.l2 k m x4 true x6 e g h i j (wrap64 (l + 1)) a b c d)) else (none))) else (none)) else (none)) else (if 0 ≤ x9 then (if x9 < (x4.length : Int) then (if rdOf false x4 x9 = true then (if 0 ≤ x6 then (if x6 < (x4.length : Int) then (if rdOf false x4 x6 = true then (Zai.l2 k x3 x4 x5 x6 e g h i j (wrap64 (l + 1)) a b c d) else (Zai.l2 k x3 (x4.set (x6 : Int).toNat true) true x6 e g h i j (wrap64 (l + 1)) a b c d)) else (none)) else (none)) else (Zai.l2 k x3 x4 x5 x6 e g h i j (wrap64 (l + 1)) a b c d)) else (none)) else (none))
def Zai.l3 : Nat → List Bool → List Bool → Int → Int → Option (List Bool)
 | 0, _, _, _, _ => none
 | k + 1, x3, x4, b, a => if a < b then (if 0 ≤ a then (if a < (x3.length : Int) then (if rdOf false x3 a = true then (if a < (x4.length : Int) then (Zai.l3 k (x3.set (a : Int).toNat (rdOf false x4 a)) x4 b (wrap64 (a + 1))) else (none)) else (Zai.l3 k (x3.set (a : Int).toNat false) x4 b (wrap64 (a + 1)))) else (none)) else (none)) else (some x3)
end
def Zai.f (k : Nat) (e : Int) (a : Int) (c : List Bool) (b : List (List Int)) : Option (List Bool) := if 0 ≤ (b.length : Int) then (if ((b.length : Int) : Int).toNat ≤ 281474976710656 then ((some (List.replicate ((b.length : Int) : Int).toNat false : List Bool)).bind fun d => ((Zb5.f c).bind fun g => (if 0 ≤ a then (if a < (d.length : Int) then (Zai.l0 k (d.set (a : Int).toNat true) g true e a c b) else (none)) else (none)))) else (none)) else (none)
def Zai.T1 : Bool × List (List Nat × List Nat) := (true, [([], []), ([0], [0]), ([1], [1]), ([2, 2], [2]), ([], []), ([4], [4]), ([5], [5]), ([3, 6, 0, 1, 2, 3], [3]), ([6, 7, 0, 1, 2, 3, 4, 5, 6, 7], [6])])
def Zai.B1 : List Nat := [0, 1, 3, 7, 0, 16, 48, 127, 255]
theorem Zai.tab1 : rtab .any (opsOf Try.f47 1) = Zai.T1 := by kernel_rfl
theorem Zai.bits1 : Zda Zai.T1.2 Zai.B1 = true := by kernel_rfl
set_option maxHeartbeats 8000000 in
set_option maxRecDepth 100000 in
theorem Zai.calls (k : Nat) (G : Int) (A : Int) (I : Option Addr) (J : Nat) (E : List Bool) (ad : Option Addr) (M : Nat) (c : List (List Int)) (r : List Bool) (w : World) (dg : Kd.C Kd.bool w I E.length E) (dh : E.length ≤ J) (di : Kd.C (Kd.slice 2 (Kd.int .i64)) w ad c.length c) (dj : c.length ≤ M) (h : Zai.f k G A E c = some r) :
  Calls Try.prog 47 #[.agg #[.int .i64 G, .int .i64 A, .slice I E.length J, .slice ad c.length M]] w fun e w' => ∃ er : Value, e = .returned (er) ∧ Kd.R Kd.bool 4 w' w.heap.size (fun _ => True) er r ∧ Below w.heap.size w w' := by
 have fl := Try.underlying63
 have dk := mA dg
 have dl := mA dh
 clear dg dh
 have d0 := mA di
 have fc := mA dj
 clear di dj
 have HB := mA (Below.refl w.heap.size w)
 unfold Zai.f at h
 have H := h
 clear h
 by_cases c2 : 0 ≤ (c.length : Int); rotate_left
 ·rw [if_neg c2] at H
  exact absurd H (by simp)
 rw [if_pos c2] at H
 have bn := eq_true c2
 have bo := dT c2
 clear c2
 by_cases c3 : ((c.length : Int) : Int).toNat ≤ 281474976710656; rotate_left
 ·rw [if_neg c3] at H
  exact absurd H (by simp)
 rw [if_pos c3] at H
 have bp := eq_true c3
 have bq := dT c3
 clear c3
 obtain ⟨ar, bY⟩ : ∃ y_ : List Bool, y_ = (List.replicate ((c.length : Int) : Int).toNat false) := ⟨_, rfl⟩
 replace H := bsm bY H
 have bg := mA bY
 clear bY
 replace H := bE H
 obtain ⟨br, es, H⟩ := H
 have A4 := mA es
 clear es
 by_cases c5 : 0 ≤ A; rotate_left
 ·rw [if_neg c5] at H
  exact absurd H (by simp)
 rw [if_pos c5] at H
 have bs := dT c5
 clear c5
 by_cases c6 : A < (ar.length : Int); rotate_left
 ·rw [if_neg c6] at H
  exact absurd H (by simp)
 rw [if_pos c6] at H
 have bu := dT c6
 clear c6
 obtain ⟨dA, bZ⟩ : ∃ y_ : List Bool, y_ = (ar.set (A : Int).toNat true) := ⟨_, rfl⟩
 rw [← bZ] at H
 have d1 := mA bZ
 clear bZ
 have H' := mA H
 clear H
 go_enter Try.func47, Try.ntmps47
 try go_wp2_with (first | ((with_reducible refine Zap (N := 1) rfl ?_); refine boxS (N := 1) (cs := #[.int .i64 G, .int .i64 A, .slice I E.length J, .slice ad c.length M]) (t := 63) ?_; intro x hg w8 hbox hb; have b := mA (hbox); have fd := geW (w := w) hg; have fe := geW (w := w) hg; replace HB := mA (Zaf (bW) hb); clear hb hbox hg))
 replace b := mA (Zab b.out)
 replace HB := mA (Za3 HB.out)
 refine start_ (n := 9) (S := fun w' => w'.cell? ⟨x, 0, none⟩ = some (.int .i64 G) ∧ w'.cell? ⟨x, 1, none⟩ = some (.int .i64 A) ∧ w'.cell? ⟨x, 2, none⟩ = some (.slice I E.length J) ∧ w'.cell? ⟨x, 3, none⟩ = some (.slice ad c.length M)) (ds := []) #[false, false, false, false, false, false, false, false, false] (by kernel_rfl) rfl rfl ⟨bc b 0, bc b 1, bc b 2, bc b 3⟩ (fun hHeld => ?_); refine Zc0 Zai.tab1 Zai.bits1 (fun HT_ HW_ => ?_)
 generalize w8.drew = w9 at b HB hHeld ⊢
 refine Zav (i := 0) (N := some 11) (Zaw HT_.out (by kernel_rfl)) ?_
 refine Zav (i := 4) (N := some 15) (Zaw HT_.out (by kernel_rfl)) ?_
 refine Zbt (i := 1) (N := some 12) (Zbb HT_.out HW_.out (by kernel_rfl)) hHeld ?_
 refine Zav (i := 2) (N := some 13) (Zaw HT_.out (by kernel_rfl)) ?_
 refine Zbt (i := 5) (N := some 16) (Zbb HT_.out HW_.out (by kernel_rfl)) hHeld ?_
 refine join_ (σ := Value × Value) 2 #[true, true, true, true, true, true, true, false, false] (fun s_ => [(14, s_.1), (17, s_.2)]) (fun s_ w' => (w'.cell? ⟨x, 0, none⟩ = some (.int .i64 G) ∧ w'.cell? ⟨x, 1, none⟩ = some (.int .i64 A) ∧ w'.cell? ⟨x, 2, none⟩ = some (.slice I E.length J) ∧ w'.cell? ⟨x, 3, none⟩ = some (.slice ad c.length M)) ∧ (Kd.R Kd.bool 4 w' w.heap.size (fun k_ => some k_ ≠ (s_.2 : Value).ownBlock) s_.1 ar) ∧ (Kd.R Kd.bool 4 w' w.heap.size (fun k_ => some k_ ≠ (s_.1 : Value).ownBlock) s_.2 br) ∧ (w'.heap[x]? = some (.cells #[.int .i64 G, .int .i64 A, .slice I E.length J, .slice ad c.length M] 63 (0, 0))) ∧ (Below w.heap.size w w')) ?_ ?_
 rotate_left
 ·intro hCont
  refine two_ (i := 3) (j := 6) (Ni := some 14) (Nj := some 17) #[true, true, true, true, true, true, false, false, false] #[true, true, true, false, true, true, true, false, false] rfl rfl rfl rfl (two_of HT_.out (by kernel_rfl)) (by decide) (by decide) (fun K hK => ?_) (fun K hK => ?_)
  ·skip
   refine xV Kd.bool _ 4 (by rfl) (N := 14) rfl 61 _ _ rfl (c.length : Int) rfl rfl Try.underlying61 (.bool false) 1 info4 rfl (by decide) (by omega) false (ok := fun _ => True) (okp := fun _ => True) rfl (fun _ hk => hk) trivial (ofD) (Nat.le_trans (Nat.mul_le_mul_right _ (ofD : (c.length : Int).toNat ≤ 281474976710656)) (by omega)) (Below.refl _ _) (Nat.le_refl _) ?_
   intro a5 e2 bv hb hg_ hnew_
   clear hg_ hnew_
   (first | rw [← bg.out] at bv | (simp only [Int.reduceToNat] at bv; rw [← bg.out] at bv))
   have W := mA (zV bv (Zan (bW)))
   replace b := mA (blkB b.out hb)
   replace HB := mA (Zaf (bW) hb)
   clear hb bv
   refine hK.out _ _ ⟨bc b 0, bc b 1, bc b 2, bc b 3⟩ (fun hHeld => ?_)
   clear hK K
   refine putS 14 ?_
   refine one_ (i := 6) (N := some 17) #[true, true, true, true, true, true, true, false, false] rfl rfl (Zb4 HT_.out (by kernel_rfl)) (by decide) (fun K hK => ?_)
   refine goes_ Try.func91 (by kernel_rfl) rfl #[.slice I E.length J] (by rfl) rfl rfl (by (try simp only [List.map_toArray, List.map_cons, List.map_nil]); first | done | rfl | (simp only [List.length_drop, List.length_take]; rfl)) ?_
   with_reducible refine (Zb5.calls _ _ E br _ ?side1 ?side2 A4.out).mono ?_
   (case side1 => exact cP (zL dk.out HB.out))
   (case side2 => exact dl.out)
   rintro e fD ⟨P, rfl, bJ, hb⟩
   refine ⟨_, rfl, ?_⟩
   have ah := mA (zV (yA bJ (zN (rP W.out))) (Zan (bW)))
   replace W := mA (zZ (rP W.out) (zT bJ) hb)
   replace b := mA (blkB b.out hb)
   replace HB := mA (Zaf (bW) hb)
   (try clear hb)
   (try clear hb2)
   (try clear hk)
   (try clear hi)
   (try clear bJ)
   refine hK.out _ _ ⟨bc b 0, bc b 1, bc b 2, bc b 3⟩ (fun hHeld => ?_)
   clear hK K
   refine putS 17 ?_
   exact norm_ (by simp only [putAll, Act.put, List.setIfInBounds_toArray, List.set_cons_zero, List.set_cons_succ]) (hCont (a5, P) _ ⟨hHeld, (by (with_reducible repeat (first | apply zD | apply zE | apply zA)); exact zC W.out (fun _ hk => hk.2)), (by (with_reducible repeat (first | apply zD | apply zE | apply zA)); exact zC ah.out (fun _ hk => hk.2)), (bP b.out), (bW)⟩)
  skip
  refine goes_ Try.func91 (by kernel_rfl) rfl #[.slice I E.length J] (by rfl) rfl rfl (by (try simp only [List.map_toArray, List.map_cons, List.map_nil]); first | done | rfl | (simp only [List.length_drop, List.length_take]; rfl)) ?_
  with_reducible refine (Zb5.calls _ _ E br _ ?side1 ?side2 A4.out).mono ?_
  (case side1 => exact cP (zL dk.out HB.out))
  (case side2 => exact dl.out)
  rintro e e2 ⟨P, rfl, bJ, hb⟩
  refine ⟨_, rfl, ?_⟩
  have ah := mA (zV bJ (Zan (bW)))
  replace b := mA (blkB b.out hb)
  replace HB := mA (Zaf (bW) hb)
  (try clear hb)
  (try clear hb2)
  (try clear hk)
  (try clear hi)
  (try clear bJ)
  refine hK.out _ _ ⟨bc b 0, bc b 1, bc b 2, bc b 3⟩ (fun hHeld => ?_)
  clear hK K
  refine putS 17 ?_
  refine one_ (i := 3) (N := some 14) #[true, true, true, true, true, true, true, false, false] rfl rfl (Zb4 HT_.out (by kernel_rfl)) (by decide) (fun K hK => ?_)
  refine xV Kd.bool _ 4 (by rfl) (N := 14) rfl 61 _ _ rfl (c.length : Int) rfl rfl Try.underlying61 (.bool false) 1 info4 rfl (by decide) (by omega) false (ok := fun _ => True) (okp := fun _ => True) rfl (fun _ hk => hk) trivial (ofD) (Nat.le_trans (Nat.mul_le_mul_right _ (ofD : (c.length : Int).toNat ≤ 281474976710656)) (by omega)) (Below.refl _ _) (Nat.le_refl _) ?_
  intro a5 fE a6 hb hg_ hnew_
  clear hg_ hnew_
  (first | rw [← bg.out] at a6 | (simp only [Int.reduceToNat] at a6; rw [← bg.out] at a6))
  have W := mA (zV (yA a6 (zN (rP ah.out))) (Zan (bW)))
  replace ah := mA (zZ (rP ah.out) (zT a6) hb)
  replace b := mA (blkB b.out hb)
  replace HB := mA (Zaf (bW) hb)
  clear hb a6
  refine hK.out _ _ ⟨bc b 0, bc b 1, bc b 2, bc b 3⟩ (fun hHeld => ?_)
  clear hK K
  refine putS 14 ?_
  exact norm_ (by simp only [putAll, Act.put, List.setIfInBounds_toArray, List.set_cons_zero, List.set_cons_succ]) (hCont (a5, P) _ ⟨hHeld, (by (with_reducible repeat (first | apply zD | apply zE | apply zA)); exact zC W.out (fun _ hk => hk.2)), (by (with_reducible repeat (first | apply zD | apply zE | apply zA)); exact zC ah.out (fun _ hk => hk.2)), (bP b.out), (bW)⟩)
 rintro ⟨a5, P⟩ w13 ⟨hS_, et, eu, ev, ew⟩
 have ey : Zad (Kd.R Kd.bool 4 w13 w.heap.size (fun k_ => some k_ ≠ (P : Value).ownBlock) a5 ar) := ⟨et⟩
 have ez : Zad (Kd.R Kd.bool 4 w13 w.heap.size (fun k_ => some k_ ≠ (a5 : Value).ownBlock) P br) := ⟨eu⟩
 have eA : Zad (w13.heap[x]? = some (.cells #[.int .i64 G, .int .i64 A, .slice I E.length J, .slice ad c.length M] 63 (0, 0))) := ⟨ev⟩
 have eB : Zad (Below w.heap.size w w13) := ⟨ew⟩
 clear b HB et eu ev ew; have W := ey; have ah := ez; have b := eA; have HB := eB; clear ey ez eA eB
 have hHeld : w13.cell? ⟨x, 0, none⟩ = some (.int .i64 G) ∧ w13.cell? ⟨x, 1, none⟩ = some (.int .i64 A) ∧ w13.cell? ⟨x, 2, none⟩ = some (.slice I E.length J) ∧ w13.cell? ⟨x, 3, none⟩ = some (.slice ad c.length M) := hS_
 refine norm_ (a' := ?_) ?_ ?_
 rotate_left
 ·simp only [putAll, Act.put, List.setIfInBounds_toArray, List.set_cons_zero, List.set_cons_succ]
  rfl
 refine Zav (i := 7) (N := some 3) (Zaw HT_.out (by kernel_rfl)) ?_
 refine Zav (i := 8) (N := some 4) (Zaw HT_.out (by kernel_rfl)) ?_
 refine done_ (done_of HT_.out (by kernel_rfl)) ?_
 have au : w13.cell? ⟨x, 0, none⟩ = some (.int .i64 G) := bc b 0
 have av : w13.cell? ⟨x, 1, none⟩ = some (.int .i64 A) := bc b 1
 have aw : w13.cell? ⟨x, 2, none⟩ = some (.slice I E.length J) := bc b 2
 have ax : w13.cell? ⟨x, 3, none⟩ = some (.slice ad c.length M) := bc b 3
 have ay := Zae b.out 0
 have az := Zae b.out 1
 have aA := Zae b.out 2
 have aB := Zae b.out 3
 have p7 : 0 ≤ (A : Int) := ofD
 have q7 : (A : Int) < ((ar.length : Int) : Int) := ofD
 obtain ⟨D, O, eC, eD, e3, fF, eE⟩ := yM W.out (by omega)
 (first | cases eC | (injection eC with ea_ en_ ec_; (first | subst ea_ | (injection ea_ with ea_; subst ea_)); subst ec_; clear en_))
 have bK := mA eD
 have fG := mA eE
 clear eD e3 eE
 obtain ⟨aZ, ff⟩ := yF false W.out (A : Int) p7 q7
 replace p7 := eq_true p7
 replace q7 := eq_true q7
 obtain ⟨fg, fh⟩ := yF false W.out (A : Int) (ofD) (ofD)
 have cO := yG W.out (A : Int) true
 try go_wp2_with (first | ((with_reducible refine Zbl (t := 4) (p := 21) rfl ?_); refine Zc2 (t := 4) (p := 21) (w1 := (w13.setCell ⟨D, (A : Int).toNat, none⟩ (.bool true))) ?_; intro dB hw; have hg : w13.grownBy dB (some D) := (by rw [hw]; exact cO.2); have hp_ : Kd.R Kd.bool 4 dB w.heap.size (fun k_ => some k_ ≠ (P : Value).ownBlock) (.slice (some ⟨D, 0, none⟩) ar.length O) dA := (by rw [hw, d1.out]; exact cO.1); clear cO; replace b := mA (Zaq (g := x) (o := .cells #[.int .i64 G, .int .i64 A, .slice I E.length J, .slice ad c.length M] 63 (0, 0)) (bP b.out) hg (zQ W.out b.out (by decide))); replace W := mA (hp_); replace ah := mA (zU (v := (.slice (some ⟨D, 0, none⟩) ar.length O)) (v1 := (.slice (some ⟨D, 0, none⟩) ar.length O)) (ok := (fun _ => True)) (by (with_reducible repeat (first | apply zD | apply zE | apply zA)); exact zC ah.out (fun _ hk => ⟨trivial, hk⟩)) hg (.inl rfl)); replace HB := mA ((by rw [hw]; exact Za7 (HB.out) bK.out : Below w.heap.size w dB)); clear hg hw hp_))
 go_loopg [5] k (fun kq v5 w' => ∃ (aq : List Bool) (ai : List Bool) (b0 : Bool), v5 = .bool b0 ∧ Zad (Zai.l0 kq aq ai b0 G A E c = some r) ∧ Zad (kq ≤ k) ∧ Zad (Kd.R Kd.bool 4 w' w.heap.size (fun k_ => some k_ ≠ (P : Value).ownBlock) (.slice (some ⟨D, 0, none⟩) ar.length O) aq) ∧ Zad (Kd.R Kd.bool 4 w' w.heap.size (fun k_ => some k_ ≠ ((.slice (some ⟨D, 0, none⟩) ar.length O) : Value).ownBlock) P ai) ∧ Zad (w'.heap[x]? = some (.cells #[.int .i64 G, .int .i64 A, (.slice I E.length J), (.slice ad c.length M)] 63 (0, 0))) ∧ Zad (Below w.heap.size w w'))
 case atStart => exact ⟨(dA), (br), (true), (eW), H', ⟨Nat.le_refl _⟩, ⟨rP W.out⟩, ⟨by (with_reducible repeat (first | apply zD | apply zE | apply zA)); exact zC ah.out (fun _ hk => hk.2)⟩, ⟨bP b.out⟩, ⟨bW⟩⟩
 case round =>
  clear H'
  try clear c2
  try clear bn
  try clear bo
  try clear p2
  try clear c3
  try clear bp
  try clear bq
  try clear c4
  try clear c5
  try clear bs
  try clear c6
  try clear bu
  try clear p7
  try clear q7
  try clear hx7
  try clear hf7
  try clear c9
  try clear au
  try clear av
  try clear aw
  try clear ax
  try clear ay
  try clear az
  try clear aA
  try clear aB
  try clear aZ
  try clear p7
  try clear q7
  obtain ⟨aq, ai, b0, rfl, HA, X, u, q, b, HB⟩ := hrel
  have l := (zK u.out).1
  rw [l] at u
  (try simp only [l])
  (try simp only [l] at b)
  (try simp only [l] at q)
  cases gk with
  | zero => exact absurd HA.out (by simp [Zai.l0])
  | succ k1 =>
   have H := HA.out
   clear HA
   simp only [Zai.l0] at H
   by_cases bb : b0 = true; rotate_left
   ·replace bb := Bool.eq_false_iff.mpr bb
    subst bb
    rw [iF] at H
    have H' := mA H
    clear H
    go_wp2
    go_loopg [71] k1 (fun kq v71 w' => ∃ (L : List Bool) (y : Int), v71 = .int .i64 y ∧ Zad (Zai.l3 kq L ai (aq.length : Int) y = some r) ∧ Zad (kq ≤ k1) ∧ Zad (Kd.R Kd.bool 4 w' w.heap.size (fun k_ => some k_ ≠ (P : Value).ownBlock) (.slice (some ⟨D, 0, none⟩) aq.length O) L) ∧ Zad (Kd.R Kd.bool 4 w' w.heap.size (fun k_ => some k_ ≠ ((.slice (some ⟨D, 0, none⟩) aq.length O) : Value).ownBlock) P ai) ∧ Zad (w'.heap[x]? = some (.cells #[.int .i64 G, .int .i64 A, (.slice I E.length J), (.slice ad c.length M)] 63 (0, 0))) ∧ Zad (Below w.heap.size w w'))
    case atStart => exact ⟨(aq), (0), (eW), H', ⟨Nat.le_refl _⟩, ⟨by (try simp only [l]); exact rP u.out⟩, ⟨by (try simp only [l]); exact rP q.out⟩, ⟨by (try simp only [l]); exact bP b.out⟩, ⟨bW⟩⟩
    case round =>
     clear H'
     try clear c1
     try clear c2
     try clear bn
     try clear bo
     try clear p2
     try clear q2
     try clear c3
     try clear bp
     try clear bq
     try clear p3
     try clear q3
     try clear hx3
     try clear hf3
     try clear c4
     try clear p4
     try clear q4
     try clear hx4
     try clear hf4
     try clear c5
     try clear bs
     try clear q5
     try clear c6
     try clear bu
     try clear p6
     try clear q6
     try clear hx6
     try clear hf6
     try clear p7
     try clear q7
     try clear hx7
     try clear hf7
     try clear c9
     try clear bb
     try clear a0
     try clear aO
     try clear bw
     try clear b1
     try clear bx
     try clear bh
     try clear bd
     try clear a1
     try clear bL
     try clear dm
     try clear bM
     try clear b2
     try clear bf
     try clear b3
     try clear bN
     try clear bi
     try clear bO
     try clear b4
     try clear q29
     try clear bQ
     try clear p30
     try clear q30
     try clear hx30
     try clear bR
     try clear dn
     try clear p31
     try clear q31
     try clear hx31
     try clear bS
     try clear b5
     try clear cu
     try clear cv
     try clear d2
     try clear cw
     try clear dp
     try clear aC
     try clear aD
     try clear hx36
     try clear hf36
     try clear cx
     try clear dq
     try clear q38
     try clear cy
     try clear cz
     try clear d3
     try clear cA
     try clear dr
     try clear q42
     try clear cB
     try clear cC
     try clear cD
     try clear hx47
     try clear hf47
     try clear cE
     try clear d4
     try clear cF
     try clear dt
     try clear q58
     try clear cG
     try clear cH
     try clear d5
     try clear cI
     try clear du
     try clear q62
     try clear cJ
     try clear p64
     try clear cK
     try clear cL
     try clear hx65
     try clear hf65
     try clear au
     try clear av
     try clear aw
     try clear ax
     try clear aP
     try clear aQ
     try clear aR
     try clear aS
     try clear ay
     try clear az
     try clear aA
     try clear aB
     try clear aT
     try clear aU
     try clear aV
     try clear aW
     try clear ao
     try clear Y
     try clear T
     try clear ap
     try clear aa
     try clear af
     try clear ab
     try clear ag
     try clear bz
     try clear dC
     try clear dD
     try clear aZ
     try clear p2
     try clear p3
     try clear p30
     try clear a7
     try clear aE
     try clear aF
     try clear bA
     try clear aj
     try clear aJ
     try clear ak
     try clear aK
     try clear aC
     try clear cC
     try clear p6
     try clear cK
     try clear p7
     try clear q2
     try clear q29
     try clear q3
     try clear q30
     try clear a8
     try clear aG
     try clear aH
     try clear bB
     try clear al
     try clear aL
     try clear am
     try clear aM
     try clear aD
     try clear cD
     try clear cL
     try clear q7
     obtain ⟨L, y, rfl, HA, U, u, q, b, HB⟩ := hrel
     have d := (zK u.out).1
     rw [d] at u
     (try simp only [d])
     (try simp only [d] at b)
     (try simp only [d] at q)
     cases gk with
     | zero => exact absurd HA.out (by simp [Zai.l3])
     | succ k2 =>
      have H := HA.out
      clear HA
      simp only [Zai.l3] at H
      by_cases bT : y < (aq.length : Int); rotate_left
      ·rw [if_neg bT] at H
       have b6 := dF bT
       (try (have b7 := b6; simp only [l, d] at b7))
       clear bT
       obtain rfl := oI H
       go_wp2
       go_ret
       exact ⟨_, eW, by (with_reducible repeat (first | apply zD | apply zE | apply zA)); exact zC u.out (fun _ hk => trivial), bW⟩
      rw [if_pos bT] at H
      have b6 := dT bT
      (try (have b7 := b6; simp only [l, d] at b7))
      clear bT
      by_cases dv : 0 ≤ y; rotate_left
      ·rw [if_neg dv] at H
       exact absurd H (by simp)
      rw [if_pos dv] at H
      have fi := dT dv
      clear dv
      by_cases dw : y < (L.length : Int); rotate_left
      ·rw [if_neg dw] at H
       exact absurd H (by simp)
      rw [if_pos dw] at H
      have d6 := dT dw
      (try (have d7 := d6; simp only [l, d] at d7))
      clear dw
      obtain ⟨eF, b8⟩ : ∃ b_ : Bool, b_ = (rdOf false L y) := ⟨_, rfl⟩
      rw [← b8] at H
      have b9 := mA b8
      clear b8
      by_cases dx : eF = true; rotate_left
      ·replace dx := Bool.eq_false_iff.mpr dx
       subst dx
       rw [iF] at H
       obtain ⟨dE, ca⟩ : ∃ y_ : List Bool, y_ = (L.set (y : Int).toNat false) := ⟨_, rfl⟩
       rw [← ca] at H
       have d8 := mA ca
       clear ca
       have H' := mA H
       clear H
       have aX : 0 ≤ (y : Int) := ofD
       have aY : y < (L.length : Int) := ofD
       obtain ⟨cb, cQ, ac⟩ := yC (zK u.out).2.2 y aX aY
       (try rw [← b9.out] at ac)
       obtain rfl : (⟨D, 0, none⟩ : Addr) = cb := (by injection cQ)
       (first | simp only [Zcg] at ac | simp only [add_at] at ac | simp only [Addr.add, Nat.zero_add] at ac | skip)
       replace aX := eq_true aX
       replace aY := eq_true aY
       have dG : 0 ≤ (y : Int) := ofD
       have dH : (y : Int) < ((L.length : Int) : Int) := ofD
       obtain ⟨e4, e5⟩ := yF false u.out (y : Int) dG dH
       replace dG := eq_true dG
       replace dH := eq_true dH
       have cR := yG u.out (y : Int) false
       go_wp2_with (first | ((with_reducible refine Zbl (t := 4) (p := 86) rfl ?_); refine Zc2 (t := 4) (p := 86) (w1 := (wr.setCell ⟨D, (y : Int).toNat, none⟩ (.bool false))) ?_; intro dI hw; have hg : wr.grownBy dI (some D) := (by rw [hw]; exact cR.2); have hp_ : Kd.R Kd.bool 4 dI w.heap.size (fun k_ => some k_ ≠ (P : Value).ownBlock) (.slice (some ⟨D, 0, none⟩) L.length O) dE := (by rw [hw, d8.out]; exact cR.1); clear cR; replace q := mA (zU (v := (.slice (some ⟨D, 0, none⟩) L.length O)) (v1 := (.slice (some ⟨D, 0, none⟩) L.length O)) (ok := (fun _ => True)) (by (with_reducible repeat (first | apply zD | apply zE | apply zA)); exact zC q.out (fun _ hk => ⟨trivial, hk⟩)) hg (.inl rfl)); replace b := mA (Zaq (g := x) (o := .cells #[.int .i64 G, .int .i64 A, .slice I E.length J, .slice ad c.length M] 63 (0, 0)) (bP b.out) hg (zQ u.out b.out (by decide))); replace u := mA (hp_); replace HB := mA ((by rw [hw]; exact Za7 (HB.out) bK.out : Below w.heap.size w dI)); clear hg hw hp_))
       (try simp only [← d])
       go_roundg k2
       case measure => have := X.out; have := U.out; omega
       case rel => exact ⟨(dE), (wrap64 (y + 1)), (eW), H', ⟨by have := X.out; have := U.out; omega⟩, ⟨by (try simp only [l]); (try simp only [d]); exact rP u.out⟩, ⟨by (try simp only [l]); (try simp only [d]); (with_reducible repeat (first | apply zD | apply zE | apply zA)); exact zC q.out (fun _ hk => hk.2)⟩, ⟨by (try simp only [l]); (try simp only [d]); exact bP b.out⟩, ⟨bW⟩⟩
      subst dx
      rw [if_pos rfl] at H
      by_cases dy : y < (ai.length : Int); rotate_left
      ·rw [if_neg dy] at H
       exact absurd H (by simp)
      rw [if_pos dy] at H
      have d9 := dT dy
      (try (have ea := d9; simp only [l, d] at ea))
      clear dy
      obtain ⟨dJ, cc⟩ : ∃ y_ : List Bool, y_ = (L.set (y : Int).toNat (rdOf false ai y)) := ⟨_, rfl⟩
      rw [← cc] at H
      have eb := mA cc
      clear cc
      have H' := mA H
      clear H
      have aX : 0 ≤ (y : Int) := ofD
      have aY : y < (L.length : Int) := ofD
      obtain ⟨cb, cQ, ac⟩ := yC (zK u.out).2.2 y aX aY
      (try rw [← b9.out] at ac)
      obtain rfl : (⟨D, 0, none⟩ : Addr) = cb := (by injection cQ)
      (first | simp only [Zcg] at ac | simp only [add_at] at ac | simp only [Addr.add, Nat.zero_add] at ac | skip)
      replace aX := eq_true aX
      replace aY := eq_true aY
      obtain ⟨fm, eG, eH⟩ := zP q.out
      subst eH
      have cS : 0 ≤ (y : Int) := ofD
      have cT : y < (ai.length : Int) := ofD
      obtain ⟨ec, eI, dz⟩ := yC (zK q.out).2.2 y cS cT
      (try rw [← b9.out] at dz)
      cases eI
      replace cS := eq_true cS
      replace cT := eq_true cT
      have dK : 0 ≤ (y : Int) := ofD
      have dL : (y : Int) < ((L.length : Int) : Int) := ofD
      obtain ⟨e6, e7⟩ := yF false u.out (y : Int) dK dL
      replace dK := eq_true dK
      replace dL := eq_true dL
      have cU := yG u.out (y : Int) (rdOf false ai y)
      go_wp2_with (first | ((with_reducible refine Zbl (t := 4) (p := 86) rfl ?_); refine Zc2 (t := 4) (p := 86) (w1 := (wr.setCell ⟨D, (y : Int).toNat, none⟩ (.bool (rdOf false ai y)))) ?_; intro dM hw; have hg : wr.grownBy dM (some D) := (by rw [hw]; exact cU.2); have hp_ : Kd.R Kd.bool 4 dM w.heap.size (fun k_ => some k_ ≠ (.slice (some ec) ai.length eG : Value).ownBlock) (.slice (some ⟨D, 0, none⟩) L.length O) dJ := (by rw [hw, eb.out]; exact cU.1); clear cU; replace q := mA (zU (v := (.slice (some ⟨D, 0, none⟩) L.length O)) (v1 := (.slice (some ⟨D, 0, none⟩) L.length O)) (ok := (fun _ => True)) (by (with_reducible repeat (first | apply zD | apply zE | apply zA)); exact zC q.out (fun _ hk => ⟨trivial, hk⟩)) hg (.inl rfl)); replace b := mA (Zaq (g := x) (o := .cells #[.int .i64 G, .int .i64 A, .slice I E.length J, .slice ad c.length M] 63 (0, 0)) (bP b.out) hg (zQ u.out b.out (by decide))); replace u := mA (hp_); replace HB := mA ((by rw [hw]; exact Za7 (HB.out) bK.out : Below w.heap.size w dM)); clear hg hw hp_))
      (try simp only [← d])
      go_roundg k2
      case measure => have := X.out; have := U.out; omega
      case rel => exact ⟨(dJ), (wrap64 (y + 1)), (eW), H', ⟨by have := X.out; have := U.out; omega⟩, ⟨by (try simp only [l]); (try simp only [d]); exact rP u.out⟩, ⟨by (try simp only [l]); (try simp only [d]); (with_reducible repeat (first | apply zD | apply zE | apply zA)); exact zC q.out (fun _ hk => hk.2)⟩, ⟨by (try simp only [l]); (try simp only [d]); exact bP b.out⟩, ⟨bW⟩⟩
   subst bb
   rw [if_pos rfl] at H
   have H' := mA H
   clear H
   have aP : wr.cell? ⟨x, 0, none⟩ = some (.int .i64 G) := bc b 0
   have aQ : wr.cell? ⟨x, 1, none⟩ = some (.int .i64 A) := bc b 1
   have aR : wr.cell? ⟨x, 2, none⟩ = some (.slice I E.length J) := bc b 2
   have aS : wr.cell? ⟨x, 3, none⟩ = some (.slice ad c.length M) := bc b 3
   have aT := Zae b.out 0
   have aU := Zae b.out 1
   have aV := Zae b.out 2
   have aW := Zae b.out 3
   go_wp2
   go_loopg [5, 26] k1 (fun kq v5 v26 w' => ∃ (L : List Bool) (bC : List Bool) (bD : Bool) (a : Int), v5 = .bool bD ∧ v26 = .int .i64 a ∧ Zad (Zai.l1 kq L bC bD c (c.length : Int) a G A E c = some r) ∧ Zad (kq ≤ k1) ∧ Zad (Kd.R Kd.bool 4 w' w.heap.size (fun k_ => some k_ ≠ (P : Value).ownBlock) (.slice (some ⟨D, 0, none⟩) aq.length O) L) ∧ Zad (Kd.R Kd.bool 4 w' w.heap.size (fun k_ => some k_ ≠ ((.slice (some ⟨D, 0, none⟩) aq.length O) : Value).ownBlock) P bC) ∧ Zad (w'.heap[x]? = some (.cells #[.int .i64 G, .int .i64 A, (.slice I E.length J), (.slice ad c.length M)] 63 (0, 0))) ∧ Zad (Below w.heap.size w w'))
   case atStart => exact ⟨(aq), (ai), (false), (0), (eW), (eW), H', ⟨Nat.le_refl _⟩, ⟨by (try simp only [l]); exact rP u.out⟩, ⟨by (try simp only [l]); exact rP q.out⟩, ⟨by (try simp only [l]); exact bP b.out⟩, ⟨bW⟩⟩
   case round =>
    clear H'
    try clear c1
    try clear c2
    try clear bn
    try clear bo
    try clear p2
    try clear c3
    try clear bp
    try clear bq
    try clear c4
    try clear c5
    try clear bs
    try clear c6
    try clear bu
    try clear p7
    try clear q7
    try clear hx7
    try clear hf7
    try clear c9
    try clear bb
    try clear au
    try clear av
    try clear aw
    try clear ax
    try clear aP
    try clear aQ
    try clear aR
    try clear aS
    try clear ay
    try clear az
    try clear aA
    try clear aB
    try clear aT
    try clear aU
    try clear aV
    try clear aW
    try clear aZ
    try clear p2
    try clear p7
    try clear q7
    obtain ⟨L, bC, bD, a, rfl, rfl, HA, U, u, q, b, HB⟩ := hrel
    have d := (zK u.out).1
    rw [d] at u
    (try simp only [d])
    (try simp only [d] at b)
    (try simp only [d] at q)
    cases gk with
    | zero => exact absurd HA.out (by simp [Zai.l1])
    | succ k2 =>
     have H := HA.out
     clear HA
     simp only [Zai.l1] at H
     by_cases a0 : a < (c.length : Int); rotate_left
     ·rw [if_neg a0] at H
      have aO := dF a0
      (try (have cd := aO; simp only [l, d] at cd))
      clear a0
      have H' := mA H
      clear H
      go_wp2
      (try simp only [← l, ← d])
      go_roundg k2
      case measure => have := X.out; have := U.out; omega
      case rel => exact ⟨(L), (bC), (bD), (eW), H', ⟨by have := X.out; have := U.out; omega⟩, ⟨by (try simp only [l]); (try simp only [d]); exact rP u.out⟩, ⟨by (try simp only [l]); (try simp only [d]); exact rP q.out⟩, ⟨by (try simp only [l]); (try simp only [d]); exact bP b.out⟩, ⟨bW⟩⟩
     rw [if_pos a0] at H
     have aO := dT a0
     (try (have cd := aO; simp only [l, d] at cd))
     clear a0
     by_cases bw : 0 ≤ a; rotate_left
     ·rw [if_neg bw] at H
      exact absurd H (by simp)
     rw [if_pos bw] at H
     have b1 := dT bw
     clear bw
     by_cases bx : a < (c.length : Int); rotate_left
     ·rw [if_neg bx] at H
      exact absurd H (by simp)
     rw [if_pos bx] at H
     have bh := dT bx
     (try (have ed := bh; simp only [l, d] at ed))
     clear bx
     have H' := mA H
     clear H
     have a7 : 0 ≤ (a : Int) := ofD
     have a8 : a < (c.length : Int) := ofD
     obtain ⟨aI, e8, e9, eJ, ao, bU, bV⟩ := Zca d0.out a a7 a8
     cases eJ
     replace ao := (HB.out.cell (wB w ao)).trans ao
     have bX := mA bV
     have e1 := mA bU
     clear bV bU
     replace a7 := eq_true a7
     replace a8 := eq_true a8
     go_wp2
     go_loopg [5, 33] k2 (fun kq v5 v33 w' => ∃ (B : List Bool) (z : List Bool) (aN : Bool) (m : Int), v5 = .bool aN ∧ v33 = .int .i64 m ∧ Zad (Zai.l2 kq B z aN a c (c.length : Int) a (Zah c a) ((Zah c a).length : Int) m G A E c = some r) ∧ Zad (kq ≤ k2) ∧ Zad (Kd.R Kd.bool 4 w' w.heap.size (fun k_ => some k_ ≠ (P : Value).ownBlock) (.slice (some ⟨D, 0, none⟩) L.length O) B) ∧ Zad (Kd.R Kd.bool 4 w' w.heap.size (fun k_ => some k_ ≠ ((.slice (some ⟨D, 0, none⟩) L.length O) : Value).ownBlock) P z) ∧ Zad (w'.heap[x]? = some (.cells #[.int .i64 G, .int .i64 A, (.slice I E.length J), (.slice (some aI) c.length M)] 63 (0, 0))) ∧ Zad (Below w.heap.size w w'))
     case atStart => exact ⟨(L), (bC), (bD), (0), (eW), (eW), H', ⟨Nat.le_refl _⟩, ⟨by (try simp only [l]); (try simp only [d]); exact rP u.out⟩, ⟨by (try simp only [l]); (try simp only [d]); exact rP q.out⟩, ⟨by (try simp only [l]); (try simp only [d]); exact bP b.out⟩, ⟨bW⟩⟩
     case round =>
      clear H'
      try clear c1
      try clear c2
      try clear bn
      try clear bo
      try clear p2
      try clear c3
      try clear bp
      try clear bq
      try clear p3
      try clear q3
      try clear hx3
      try clear c4
      try clear c5
      try clear bs
      try clear c6
      try clear bu
      try clear p7
      try clear q7
      try clear hx7
      try clear hf7
      try clear c9
      try clear bb
      try clear a0
      try clear aO
      try clear bw
      try clear b1
      try clear bx
      try clear bh
      try clear au
      try clear av
      try clear aw
      try clear ax
      try clear aP
      try clear aQ
      try clear aR
      try clear aS
      try clear ay
      try clear az
      try clear aA
      try clear aB
      try clear aT
      try clear aU
      try clear aV
      try clear aW
      try clear ao
      try clear aZ
      try clear p2
      try clear a7
      try clear p7
      try clear a8
      try clear q7
      obtain ⟨B, z, aN, m, rfl, rfl, HA, ae, u, q, b, HB⟩ := hrel
      have s := (zK u.out).1
      rw [s] at u
      (try simp only [s])
      (try simp only [s] at b)
      (try simp only [s] at q)
      cases gk with
      | zero => exact absurd HA.out (by simp [Zai.l2])
      | succ k3 =>
       have H := HA.out
       clear HA
       simp only [Zai.l2] at H
       by_cases bd : m < ((Zah c a).length : Int); rotate_left
       ·rw [if_neg bd] at H
        have a1 := dF bd
        (try (have ce := a1; simp only [l, d, s] at ce))
        clear bd
        have H' := mA H
        clear H
        go_wp2
        (try simp only [← d, ← s])
        go_roundg k3
        case measure => have := X.out; have := U.out; have := ae.out; omega
        case rel => exact ⟨(B), (z), (aN), (wrap64 (a + 1)), (eW), (eW), H', ⟨by have := X.out; have := U.out; have := ae.out; omega⟩, ⟨by (try simp only [l]); (try simp only [d]); (try simp only [s]); exact rP u.out⟩, ⟨by (try simp only [l]); (try simp only [d]); (try simp only [s]); exact rP q.out⟩, ⟨by (try simp only [l]); (try simp only [d]); (try simp only [s]); exact bP b.out⟩, ⟨bW⟩⟩
       rw [if_pos bd] at H
       have a1 := dT bd
       (try (have ce := a1; simp only [l, d, s] at ce))
       clear bd
       by_cases bL : 0 ≤ m; rotate_left
       ·rw [if_neg bL] at H
        exact absurd H (by simp)
       rw [if_pos bL] at H
       have dm := dT bL
       clear bL
       by_cases bM : m < ((Zah c a).length : Int); rotate_left
       ·rw [if_neg bM] at H
        exact absurd H (by simp)
       rw [if_pos bM] at H
       have b2 := dT bM
       (try (have ee := b2; simp only [l, d, s] at ee))
       clear bM
       by_cases bf : (rd (Zah c a) m) < 0
       ·rw [if_pos bf] at H
        have b3 := dT bf
        clear bf
        have H' := mA H
        clear H
        have aE : 0 ≤ (m : Int) := ofD
        have aG : m < ((Zah c a).length : Int) := ofD
        obtain ⟨ef, cV, Y⟩ := zO bX.out m aE aG
        cases cV
        replace Y := (HB.out.cell (wB w Y)).trans Y
        replace aE := eq_true aE
        replace aG := eq_true aG
        go_wp2
        (try simp only [← s])
        go_roundg k3
        case measure => have := X.out; have := U.out; have := ae.out; omega
        case rel => exact ⟨(B), (z), (aN), (wrap64 (m + 1)), (eW), (eW), H', ⟨by have := X.out; have := U.out; have := ae.out; omega⟩, ⟨by (try simp only [l]); (try simp only [d]); (try simp only [s]); exact rP u.out⟩, ⟨by (try simp only [l]); (try simp only [d]); (try simp only [s]); exact rP q.out⟩, ⟨by (try simp only [l]); (try simp only [d]); (try simp only [s]); exact bP b.out⟩, ⟨bW⟩⟩
       rw [if_neg bf] at H
       have b3 := dF bf
       clear bf
       have cW := mA H
       clear H
       have aE : 0 ≤ (m : Int) := ofD
       have aG : m < ((Zah c a).length : Int) := ofD
       obtain ⟨ef, cV, Y⟩ := zO bX.out m aE aG
       cases cV
       replace Y := (HB.out.cell (wB w Y)).trans Y
       replace aE := eq_true aE
       replace aG := eq_true aG
       go_upto_region 13 with (fail)
       go_cut [49] (fun v49 wc => ∃ (kq : Nat) (a2 : Bool), v49 = .bool a2 ∧ Zad (Zai.j3 kq B z aN a (rd (Zah c a) m) c (c.length : Int) a (Zah c a) ((Zah c a).length : Int) m a2 G A E c = some r) ∧ Zad (kq ≤ k3) ∧ Zad (Kd.R Kd.bool 4 wc w.heap.size (fun k_ => some k_ ≠ (P : Value).ownBlock) (.slice (some ⟨D, 0, none⟩) B.length O) B) ∧ Zad (Kd.R Kd.bool 4 wc w.heap.size (fun k_ => some k_ ≠ ((.slice (some ⟨D, 0, none⟩) B.length O) : Value).ownBlock) P z) ∧ Zad (wc.heap[x]? = some (.cells #[.int .i64 G, .int .i64 A, (.slice I E.length J), (.slice (some aI) c.length M)] 63 (0, 0))) ∧ Zad (Below w.heap.size w wc))
       case first =>
        have H := cW.out
        clear cW
        by_cases bN : 0 ≤ a; rotate_left
        ·rw [if_neg bN] at H
         exact absurd H (by simp)
        rw [if_pos bN] at H
        have bi := dT bN
        clear bN
        (first | rw [bi] | (simp only [i64_w, i32_w]; rw [bi]) | skip)
        by_cases bO : a < (B.length : Int); rotate_left
        ·rw [if_neg bO] at H
         exact absurd H (by simp)
        rw [if_pos bO] at H
        have b4 := dT bO
        (try (have eg := b4; simp only [l, d, s] at eg))
        clear bO
        obtain ⟨eK, cf⟩ : ∃ b_ : Bool, b_ = (rdOf false B a) := ⟨_, rfl⟩
        rw [← cf] at H
        have cg := mA cf
        clear cf
        by_cases bQ : eK = true; rotate_left
        ·replace bQ := Bool.eq_false_iff.mpr bQ
         subst bQ
         rw [iF] at H
         have H' := mA H
         clear H
         have aF : 0 ≤ (a : Int) := ofD
         have aH : a < (B.length : Int) := ofD
         obtain ⟨ch, cX, T⟩ := yC (zK u.out).2.2 a aF aH
         (try rw [← cg.out] at T)
         obtain rfl : (⟨D, 0, none⟩ : Addr) = ch := (by injection cX)
         (first | simp only [Zcg] at T | simp only [add_at] at T | simp only [Addr.add, Nat.zero_add] at T | skip)
         replace aF := eq_true aF
         replace aH := eq_true aH
         go_wp2
         go_meet
         case rel => exact ⟨_, (false), (eW), H', ⟨by have := X.out; have := U.out; have := ae.out; first | omega | exact Nat.le_refl _⟩, ⟨by (try simp only [l]); (try simp only [d]); (try simp only [s]); exact rP u.out⟩, ⟨by (try simp only [l]); (try simp only [d]); (try simp only [s]); exact rP q.out⟩, ⟨by (try simp only [l]); (try simp only [d]); (try simp only [s]); exact bP b.out⟩, ⟨bW⟩⟩
        subst bQ
        rw [if_pos rfl] at H
        by_cases bR : 0 ≤ (rd (Zah c a) m); rotate_left
        ·rw [if_neg bR] at H
         exact absurd H (by simp)
        rw [if_pos bR] at H
        have dn := dT bR
        clear bR
        by_cases bS : (rd (Zah c a) m) < (B.length : Int); rotate_left
        ·rw [if_neg bS] at H
         exact absurd H (by simp)
        rw [if_pos bS] at H
        have b5 := dT bS
        (try (have eh := b5; simp only [l, d, s] at eh))
        clear bS
        have H' := mA H
        clear H
        have aF : 0 ≤ (a : Int) := ofD
        have aH : a < (B.length : Int) := ofD
        obtain ⟨ch, cX, T⟩ := yC (zK u.out).2.2 a aF aH
        (try rw [← cg.out] at T)
        obtain rfl : (⟨D, 0, none⟩ : Addr) = ch := (by injection cX)
        (first | simp only [Zcg] at T | simp only [add_at] at T | simp only [Addr.add, Nat.zero_add] at T | skip)
        replace aF := eq_true aF
        replace aH := eq_true aH
        have bA : 0 ≤ ((rd (Zah c a) m) : Int) := ofD
        have bB : (rd (Zah c a) m) < (B.length : Int) := ofD
        obtain ⟨ei, eL, ap⟩ := yC (zK u.out).2.2 (rd (Zah c a) m) bA bB
        (try rw [← cg.out] at ap)
        obtain rfl : (⟨D, 0, none⟩ : Addr) = ei := (by injection eL)
        (first | simp only [Zcg] at ap | simp only [add_at] at ap | simp only [Addr.add, Nat.zero_add] at ap | skip)
        replace bA := eq_true bA
        replace bB := eq_true bB
        go_wp2
        go_meet
        case rel => exact ⟨_, (!(rdOf false B (rd (Zah c a) m))), (eW), H', ⟨by have := X.out; have := U.out; have := ae.out; first | omega | exact Nat.le_refl _⟩, ⟨by (try simp only [l]); (try simp only [d]); (try simp only [s]); exact rP u.out⟩, ⟨by (try simp only [l]); (try simp only [d]); (try simp only [s]); exact rP q.out⟩, ⟨by (try simp only [l]); (try simp only [d]); (try simp only [s]); exact bP b.out⟩, ⟨bW⟩⟩
       case rest =>
        clear cW
        try clear c1
        try clear c2
        try clear bn
        try clear bo
        try clear p2
        try clear q2
        try clear c3
        try clear bp
        try clear bq
        try clear p3
        try clear q3
        try clear hx3
        try clear c4
        try clear c5
        try clear bs
        try clear c6
        try clear bu
        try clear p6
        try clear p7
        try clear q7
        try clear hx7
        try clear hf7
        try clear c9
        try clear bb
        try clear a0
        try clear aO
        try clear bw
        try clear b1
        try clear bx
        try clear bh
        try clear bd
        try clear a1
        try clear bL
        try clear dm
        try clear bM
        try clear b2
        try clear bf
        try clear b3
        try clear bN
        try clear bi
        try clear bO
        try clear b4
        try clear q29
        try clear bQ
        try clear p30
        try clear q30
        try clear hx30
        try clear bR
        try clear dn
        try clear bS
        try clear b5
        try clear au
        try clear av
        try clear aw
        try clear ax
        try clear aP
        try clear aQ
        try clear aR
        try clear aS
        try clear ay
        try clear az
        try clear aA
        try clear aB
        try clear aT
        try clear aU
        try clear aV
        try clear aW
        try clear ao
        try clear Y
        try clear T
        try clear ap
        try clear aZ
        try clear p2
        try clear p3
        try clear a7
        try clear aE
        try clear aF
        try clear bA
        try clear p7
        try clear q3
        try clear a8
        try clear aG
        try clear aH
        try clear bB
        try clear q7
        obtain ⟨kq, a2, rfl, HA, an, u, q, b, HB⟩ := hcut
        cases kq with
        | zero => exact absurd HA.out (by simp [Zai.j3])
        | succ a9 =>
         have H := HA.out
         clear HA
         simp only [Zai.j3] at H
         by_cases cu : a2 = true; rotate_left
         ·replace cu := Bool.eq_false_iff.mpr cu
          subst cu
          rw [iF] at H
          by_cases cE : 0 ≤ (rd (Zah c a) m); rotate_left
          ·rw [if_neg cE] at H
           exact absurd H (by simp)
          rw [if_pos cE] at H
          have d4 := dT cE
          clear cE
          by_cases cF : (rd (Zah c a) m) < (z.length : Int); rotate_left
          ·rw [if_neg cF] at H
           exact absurd H (by simp)
          rw [if_pos cF] at H
          have dt := dT cF
          (try (have ej := dt; simp only [l, d, s] at ej))
          clear cF
          obtain ⟨eM, ci⟩ : ∃ b_ : Bool, b_ = (rdOf false z (rd (Zah c a) m)) := ⟨_, rfl⟩
          rw [← ci] at H
          have a3 := mA ci
          clear ci
          by_cases cG : eM = true; rotate_left
          ·replace cG := Bool.eq_false_iff.mpr cG
           subst cG
           rw [iF] at H
           have H' := mA H
           clear H
           obtain ⟨fn, fo, eN⟩ := zP q.out
           subst eN
           have ak : 0 ≤ ((rd (Zah c a) m) : Int) := ofD
           have am : (rd (Zah c a) m) < (z.length : Int) := ofD
           obtain ⟨bj, bF, ab⟩ := yC (zK q.out).2.2 (rd (Zah c a) m) ak am
           (try rw [← a3.out] at ab)
           cases bF
           replace ak := eq_true ak
           replace am := eq_true am
           go_wp2
           (try simp only [← s])
           go_roundg a9
           case measure => have := X.out; have := U.out; have := ae.out; have := an.out; omega
           case rel => exact ⟨(B), (z), (aN), (wrap64 (m + 1)), (eW), (eW), H', ⟨by have := X.out; have := U.out; have := ae.out; have := an.out; omega⟩, ⟨by (try simp only [l]); (try simp only [d]); (try simp only [s]); exact rP u.out⟩, ⟨by (try simp only [l]); (try simp only [d]); (try simp only [s]); exact rP q.out⟩, ⟨by (try simp only [l]); (try simp only [d]); (try simp only [s]); exact bP b.out⟩, ⟨bW⟩⟩
          subst cG
          rw [if_pos rfl] at H
          by_cases cH : 0 ≤ a; rotate_left
          ·rw [if_neg cH] at H
           exact absurd H (by simp)
          rw [if_pos cH] at H
          have d5 := dT cH
          clear cH
          by_cases cI : a < (z.length : Int); rotate_left
          ·rw [if_neg cI] at H
           exact absurd H (by simp)
          rw [if_pos cI] at H
          have du := dT cI
          (try (have ek := du; simp only [l, d, s] at ek))
          clear cI
          obtain ⟨eO, cj⟩ : ∃ b_ : Bool, b_ = (rdOf false z a) := ⟨_, rfl⟩
          rw [← cj] at H
          have bk := mA cj
          clear cj
          by_cases cJ : eO = true
          ·subst cJ
           rw [if_pos rfl] at H
           have H' := mA H
           clear H
           obtain ⟨fp, fq, eP⟩ := zP q.out
           subst eP
           have ak : 0 ≤ ((rd (Zah c a) m) : Int) := ofD
           have am : (rd (Zah c a) m) < (z.length : Int) := ofD
           obtain ⟨bj, bF, ab⟩ := yC (zK q.out).2.2 (rd (Zah c a) m) ak am
           (try rw [← a3.out] at ab)
           (try rw [← bk.out] at ab)
           cases bF
           replace ak := eq_true ak
           replace am := eq_true am
           have aK : 0 ≤ (a : Int) := ofD
           have aM : a < (z.length : Int) := ofD
           obtain ⟨ck, cY, ag⟩ := yC (zK q.out).2.2 a aK aM
           (try rw [← a3.out] at ag)
           (try rw [← bk.out] at ag)
           obtain rfl : bj = ck := (by injection cY)
           replace aK := eq_true aK
           replace aM := eq_true aM
           go_wp2
           (try simp only [← s])
           go_roundg a9
           case measure => have := X.out; have := U.out; have := ae.out; have := an.out; omega
           case rel => exact ⟨(B), (z), (aN), (wrap64 (m + 1)), (eW), (eW), H', ⟨by have := X.out; have := U.out; have := ae.out; have := an.out; omega⟩, ⟨by (try simp only [l]); (try simp only [d]); (try simp only [s]); exact rP u.out⟩, ⟨by (try simp only [l]); (try simp only [d]); (try simp only [s]); exact rP q.out⟩, ⟨by (try simp only [l]); (try simp only [d]); (try simp only [s]); exact bP b.out⟩, ⟨bW⟩⟩
          replace cJ := Bool.eq_false_iff.mpr cJ
          subst cJ
          rw [iF] at H
          obtain ⟨dN, cm⟩ : ∃ y_ : List Bool, y_ = (z.set (a : Int).toNat true) := ⟨_, rfl⟩
          rw [← cm] at H
          have el := mA cm
          clear cm
          have H' := mA H
          clear H
          obtain ⟨fr, cZ, eQ⟩ := zP q.out
          subst eQ
          have ak : 0 ≤ ((rd (Zah c a) m) : Int) := ofD
          have am : (rd (Zah c a) m) < (z.length : Int) := ofD
          obtain ⟨bj, bF, ab⟩ := yC (zK q.out).2.2 (rd (Zah c a) m) ak am
          (try rw [← a3.out] at ab)
          (try rw [← bk.out] at ab)
          cases bF
          replace ak := eq_true ak
          replace am := eq_true am
          have aK : 0 ≤ (a : Int) := ofD
          have aM : a < (z.length : Int) := ofD
          obtain ⟨ck, cY, ag⟩ := yC (zK q.out).2.2 a aK aM
          (try rw [← a3.out] at ag)
          (try rw [← bk.out] at ag)
          obtain rfl : bj = ck := (by injection cY)
          replace aK := eq_true aK
          replace aM := eq_true aM
          have cK : 0 ≤ (a : Int) := ofD
          have cL : (a : Int) < ((z.length : Int) : Int) := ofD
          obtain ⟨bG, fs, dO, dP, eR, ft, dQ⟩ := yM q.out (by omega)
          (first | cases dO | (injection dO with ea_ en_ ec_; (first | subst ea_ | (injection ea_ with ea_; subst ea_)); subst ec_; clear en_))
          have eS := mA dP
          have fu := mA dQ
          clear dP eR dQ
          (first | simp only [Zcg] at ab | skip)
          (first | simp only [Zcg] at ag | skip)
          obtain ⟨dD, fa⟩ := yF false q.out (a : Int) cK cL
          replace cK := eq_true cK
          replace cL := eq_true cL
          have c0 := yG q.out (a : Int) true
          go_wp2_with (first | ((with_reducible refine Zbl (t := 4) (p := 66) rfl ?_); refine Zc2 (t := 4) (p := 66) (w1 := (wc.setCell ⟨bG, (a : Int).toNat, none⟩ (.bool true))) ?_; intro dR hw; have hg : wc.grownBy dR (some bG) := (by rw [hw]; exact c0.2); have hp_ : Kd.R Kd.bool 4 dR w.heap.size (fun k_ => some k_ ≠ (.slice (some ⟨D, 0, none⟩) B.length O : Value).ownBlock) (.slice (some ⟨bG, 0, none⟩) z.length cZ) dN := (by rw [hw, el.out]; exact c0.1); clear c0; replace u := mA (zU (v := (.slice (some ⟨bG, 0, none⟩) z.length cZ)) (v1 := (.slice (some ⟨bG, 0, none⟩) z.length cZ)) (ok := (fun _ => True)) (by (with_reducible repeat (first | apply zD | apply zE | apply zA)); exact zC u.out (fun _ hk => ⟨trivial, hk⟩)) hg (.inl rfl)); replace b := mA (Zaq (g := x) (o := .cells #[.int .i64 G, .int .i64 A, .slice I E.length J, .slice (some aI) c.length M] 63 (0, 0)) (bP b.out) hg (zQ q.out b.out (by decide))); replace q := mA (hp_); replace HB := mA ((by rw [hw]; exact Za7 (HB.out) eS.out : Below w.heap.size w dR)); clear hg hw hp_))
          (try simp only [← s])
          go_roundg a9
          case measure => have := X.out; have := U.out; have := ae.out; have := an.out; omega
          case rel => exact ⟨(B), (dN), (true), (wrap64 (m + 1)), (eW), (eW), H', ⟨by have := X.out; have := U.out; have := ae.out; have := an.out; omega⟩, ⟨by (try simp only [l]); (try simp only [d]); (try simp only [s]); (with_reducible repeat (first | apply zD | apply zE | apply zA)); exact zC u.out (fun _ hk => hk.2)⟩, ⟨by (try simp only [l]); (try simp only [d]); (try simp only [s]); exact rP q.out⟩, ⟨by (try simp only [l]); (try simp only [d]); (try simp only [s]); exact bP b.out⟩, ⟨bW⟩⟩
         subst cu
         rw [if_pos rfl] at H
         by_cases cv : 0 ≤ (rd (Zah c a) m); rotate_left
         ·rw [if_neg cv] at H
          exact absurd H (by simp)
         rw [if_pos cv] at H
         have d2 := dT cv
         clear cv
         by_cases cw : (rd (Zah c a) m) < (B.length : Int); rotate_left
         ·rw [if_neg cw] at H
          exact absurd H (by simp)
         rw [if_pos cw] at H
         have dp := dT cw
         (try (have em := dp; simp only [l, d, s] at em))
         clear cw
         obtain ⟨ba, cn⟩ : ∃ y_ : List Bool, y_ = (B.set ((rd (Zah c a) m) : Int).toNat true) := ⟨_, rfl⟩
         replace H := bsm cn H
         have co := mA cn
         clear cn
         by_cases cx : (rd (Zah c a) m) < (z.length : Int); rotate_left
         ·rw [if_neg cx] at H
          exact absurd H (by simp)
         rw [if_pos cx] at H
         have dq := dT cx
         (try (have en := dq; simp only [l, d, s] at en))
         clear cx
         obtain ⟨eT, cp⟩ : ∃ b_ : Bool, b_ = (rdOf false z (rd (Zah c a) m)) := ⟨_, rfl⟩
         rw [← cp] at H
         have a4 := mA cp
         clear cp
         by_cases cy : eT = true; rotate_left
         ·replace cy := Bool.eq_false_iff.mpr cy
          subst cy
          rw [iF] at H
          have H' := mA H
          clear H
          have aC : 0 ≤ ((rd (Zah c a) m) : Int) := ofD
          have aD : ((rd (Zah c a) m) : Int) < ((B.length : Int) : Int) := ofD
          obtain ⟨bz, cM⟩ := yF false u.out ((rd (Zah c a) m) : Int) aC aD
          replace aC := eq_true aC
          replace aD := eq_true aD
          have da := yG u.out ((rd (Zah c a) m) : Int) true
          go_wp2_with (first | ((with_reducible refine Zbl (t := 4) (p := 52) rfl ?_); refine Zdk (t := 4) (p := 52) (v := ?vo_w54) (w1 := (wc.setCell ⟨D, ((rd (Zah c a) m) : Int).toNat, none⟩ (.bool true))) ?hg ?ho ?hn ?hr ?_; (case ho => rfl); (case hg => rfl); (case hn => rfl); (case hr => first | (go_simp; done) | (go_simp; rfl)); intro dS hw; have hg : wc.grownBy dS (some D) := (by rw [hw]; exact da.2); have hp_ : Kd.R Kd.bool 4 dS w.heap.size (fun k_ => some k_ ≠ (P : Value).ownBlock) (.slice (some ⟨D, 0, none⟩) B.length O) ba := (by rw [hw, co.out]; exact da.1); clear da; replace q := mA (zU (v := (.slice (some ⟨D, 0, none⟩) B.length O)) (v1 := (.slice (some ⟨D, 0, none⟩) B.length O)) (ok := (fun _ => True)) (by (with_reducible repeat (first | apply zD | apply zE | apply zA)); exact zC q.out (fun _ hk => ⟨trivial, hk⟩)) hg (.inl rfl)); replace b := mA (Zaq (g := x) (o := .cells #[.int .i64 G, .int .i64 A, .slice I E.length J, .slice (some aI) c.length M] 63 (0, 0)) (bP b.out) hg (zQ u.out b.out (by decide))); replace u := mA (hp_); replace HB := mA ((by rw [hw]; exact Za7 (HB.out) bK.out : Below w.heap.size w dS)); clear hg hw hp_; obtain ⟨fv, fw, eU⟩ := zP q.out; subst eU; have aj : 0 ≤ ((rd (Zah c a) m) : Int) := ofD; have al : (rd (Zah c a) m) < (z.length : Int) := ofD; obtain ⟨bl, bH, aa⟩ := yC (zK q.out).2.2 (rd (Zah c a) m) aj al; (try rw [← a4.out] at aa); cases bH; replace aj := eq_true aj; replace al := eq_true al))
          (try simp only [← s])
          go_roundg a9
          case measure => have := X.out; have := U.out; have := ae.out; have := an.out; omega
          case rel => exact ⟨(ba), (z), (true), (wrap64 (m + 1)), (eW), (eW), H', ⟨by have := X.out; have := U.out; have := ae.out; have := an.out; omega⟩, ⟨by (try simp only [l]); (try simp only [d]); (try simp only [s]); exact rP u.out⟩, ⟨by (try simp only [l]); (try simp only [d]); (try simp only [s]); (with_reducible repeat (first | apply zD | apply zE | apply zA)); exact zC q.out (fun _ hk => hk.2)⟩, ⟨by (try simp only [l]); (try simp only [d]); (try simp only [s]); exact bP b.out⟩, ⟨bW⟩⟩
         subst cy
         rw [if_pos rfl] at H
         by_cases cz : 0 ≤ a; rotate_left
         ·rw [if_neg cz] at H
          exact absurd H (by simp)
         rw [if_pos cz] at H
         have d3 := dT cz
         clear cz
         by_cases cA : a < (z.length : Int); rotate_left
         ·rw [if_neg cA] at H
          exact absurd H (by simp)
         rw [if_pos cA] at H
         have dr := dT cA
         (try (have eo := dr; simp only [l, d, s] at eo))
         clear cA
         obtain ⟨eV, cq⟩ : ∃ b_ : Bool, b_ = (rdOf false z a) := ⟨_, rfl⟩
         rw [← cq] at H
         have bm := mA cq
         clear cq
         by_cases cB : eV = true
         ·subst cB
          rw [if_pos rfl] at H
          have H' := mA H
          clear H
          have aC : 0 ≤ ((rd (Zah c a) m) : Int) := ofD
          have aD : ((rd (Zah c a) m) : Int) < ((B.length : Int) : Int) := ofD
          obtain ⟨bz, cM⟩ := yF false u.out ((rd (Zah c a) m) : Int) aC aD
          replace aC := eq_true aC
          replace aD := eq_true aD
          have db := yG u.out ((rd (Zah c a) m) : Int) true
          go_wp2_with (first | ((with_reducible refine Zbl (t := 4) (p := 52) rfl ?_); refine Zdk (t := 4) (p := 52) (v := ?vo_w45) (w1 := (wc.setCell ⟨D, ((rd (Zah c a) m) : Int).toNat, none⟩ (.bool true))) ?hg ?ho ?hn ?hr ?_; (case ho => rfl); (case hg => rfl); (case hn => rfl); (case hr => first | (go_simp; done) | (go_simp; rfl)); intro dU hw; have hg : wc.grownBy dU (some D) := (by rw [hw]; exact db.2); have hp_ : Kd.R Kd.bool 4 dU w.heap.size (fun k_ => some k_ ≠ (P : Value).ownBlock) (.slice (some ⟨D, 0, none⟩) B.length O) ba := (by rw [hw, co.out]; exact db.1); clear db; replace q := mA (zU (v := (.slice (some ⟨D, 0, none⟩) B.length O)) (v1 := (.slice (some ⟨D, 0, none⟩) B.length O)) (ok := (fun _ => True)) (by (with_reducible repeat (first | apply zD | apply zE | apply zA)); exact zC q.out (fun _ hk => ⟨trivial, hk⟩)) hg (.inl rfl)); replace b := mA (Zaq (g := x) (o := .cells #[.int .i64 G, .int .i64 A, .slice I E.length J, .slice (some aI) c.length M] 63 (0, 0)) (bP b.out) hg (zQ u.out b.out (by decide))); replace u := mA (hp_); replace HB := mA ((by rw [hw]; exact Za7 (HB.out) bK.out : Below w.heap.size w dU)); clear hg hw hp_; obtain ⟨fx, fy, eX⟩ := zP q.out; subst eX; have aj : 0 ≤ ((rd (Zah c a) m) : Int) := ofD; have al : (rd (Zah c a) m) < (z.length : Int) := ofD; obtain ⟨bl, bH, aa⟩ := yC (zK q.out).2.2 (rd (Zah c a) m) aj al; (try rw [← a4.out] at aa); (try rw [← bm.out] at aa); cases bH; replace aj := eq_true aj; replace al := eq_true al; have aJ : 0 ≤ (a : Int) := ofD; have aL : a < (z.length : Int) := ofD; obtain ⟨cr, dc, af⟩ := yC (zK q.out).2.2 a aJ aL; (try rw [← a4.out] at af); (try rw [← bm.out] at af); obtain rfl : bl = cr := (by injection dc); replace aJ := eq_true aJ; replace aL := eq_true aL))
          (try simp only [← s])
          go_roundg a9
          case measure => have := X.out; have := U.out; have := ae.out; have := an.out; omega
          case rel => exact ⟨(ba), (z), (true), (wrap64 (m + 1)), (eW), (eW), H', ⟨by have := X.out; have := U.out; have := ae.out; have := an.out; omega⟩, ⟨by (try simp only [l]); (try simp only [d]); (try simp only [s]); exact rP u.out⟩, ⟨by (try simp only [l]); (try simp only [d]); (try simp only [s]); (with_reducible repeat (first | apply zD | apply zE | apply zA)); exact zC q.out (fun _ hk => hk.2)⟩, ⟨by (try simp only [l]); (try simp only [d]); (try simp only [s]); exact bP b.out⟩, ⟨bW⟩⟩
         replace cB := Bool.eq_false_iff.mpr cB
         subst cB
         rw [iF] at H
         obtain ⟨dV, ct⟩ : ∃ y_ : List Bool, y_ = (z.set (a : Int).toNat true) := ⟨_, rfl⟩
         rw [← ct] at H
         have ep := mA ct
         clear ct
         have H' := mA H
         clear H
         have aC : 0 ≤ ((rd (Zah c a) m) : Int) := ofD
         have aD : ((rd (Zah c a) m) : Int) < ((B.length : Int) : Int) := ofD
         obtain ⟨bz, cM⟩ := yF false u.out ((rd (Zah c a) m) : Int) aC aD
         replace aC := eq_true aC
         replace aD := eq_true aD
         have dd := yG u.out ((rd (Zah c a) m) : Int) true
         go_wp2_with (first | ((with_reducible refine Zbl (t := 4) (p := 52) rfl ?_); refine Zdk (t := 4) (p := 52) (v := ?vo_w49) (w1 := (wc.setCell ⟨D, ((rd (Zah c a) m) : Int).toNat, none⟩ (.bool true))) ?hg ?ho ?hn ?hr ?_; (case ho => rfl); (case hg => rfl); (case hn => rfl); (case hr => first | (go_simp; done) | (go_simp; rfl)); intro cN hw; have hg : wc.grownBy cN (some D) := (by rw [hw]; exact dd.2); have hp_ : Kd.R Kd.bool 4 cN w.heap.size (fun k_ => some k_ ≠ (P : Value).ownBlock) (.slice (some ⟨D, 0, none⟩) B.length O) ba := (by rw [hw, co.out]; exact dd.1); clear dd; replace q := mA (zU (v := (.slice (some ⟨D, 0, none⟩) B.length O)) (v1 := (.slice (some ⟨D, 0, none⟩) B.length O)) (ok := (fun _ => True)) (by (with_reducible repeat (first | apply zD | apply zE | apply zA)); exact zC q.out (fun _ hk => ⟨trivial, hk⟩)) hg (.inl rfl)); replace b := mA (Zaq (g := x) (o := .cells #[.int .i64 G, .int .i64 A, .slice I E.length J, .slice (some aI) c.length M] 63 (0, 0)) (bP b.out) hg (zQ u.out b.out (by decide))); replace u := mA (hp_); replace HB := mA ((by rw [hw]; exact Za7 (HB.out) bK.out : Below w.heap.size w cN)); clear hg hw hp_; obtain ⟨fz, de, eY⟩ := zP q.out; subst eY; have aj : 0 ≤ ((rd (Zah c a) m) : Int) := ofD; have al : (rd (Zah c a) m) < (z.length : Int) := ofD; obtain ⟨bl, bH, aa⟩ := yC (zK q.out).2.2 (rd (Zah c a) m) aj al; (try rw [← a4.out] at aa); (try rw [← bm.out] at aa); cases bH; replace aj := eq_true aj; replace al := eq_true al; have aJ : 0 ≤ (a : Int) := ofD; have aL : a < (z.length : Int) := ofD; obtain ⟨cr, dc, af⟩ := yC (zK q.out).2.2 a aJ aL; (try rw [← a4.out] at af); (try rw [← bm.out] at af); obtain rfl : bl = cr := (by injection dc); replace aJ := eq_true aJ; replace aL := eq_true aL; have cC : 0 ≤ (a : Int) := ofD; have cD : (a : Int) < ((z.length : Int) : Int) := ofD; obtain ⟨bI, fA, dW, dX, eZ, fB, dY⟩ := yM q.out (by omega); (first | cases dW | (injection dW with ea_ en_ ec_; (first | subst ea_ | (injection ea_ with ea_; subst ea_)); subst ec_; clear en_)); have e0 := mA dX; have fC := mA dY; clear dX eZ dY; (first | simp only [Zcg] at aa | skip); (first | simp only [Zcg] at af | skip); obtain ⟨dC, fb⟩ := yF false q.out (a : Int) cC cD; replace cC := eq_true cC; replace cD := eq_true cD; have n_ := mA (zC (ok' := (fun k_ => some k_ ≠ (.slice (some ⟨D, 0, none⟩) B.length O : Value).ownBlock)) q.out (fun k_ hk => hk.2)); clear q; have q := n_; clear n_; obtain ⟨fj, fk⟩ := yF false q.out (a : Int) (ofD) (ofD); have df := yG q.out (a : Int) true) | ((with_reducible refine Zbl (t := 4) (p := 66) rfl ?_); refine Zc2 (t := 4) (p := 66) (w1 := (cN.setCell ⟨bI, (a : Int).toNat, none⟩ (.bool true))) ?_; intro dZ hw; have hg : cN.grownBy dZ (some bI) := (by rw [hw]; exact df.2); have hp_ : Kd.R Kd.bool 4 dZ w.heap.size (fun k_ => some k_ ≠ (.slice (some ⟨D, 0, none⟩) B.length O : Value).ownBlock) (.slice (some ⟨bI, 0, none⟩) z.length de) dV := (by rw [hw, ep.out]; exact df.1); clear df; replace u := mA (zU (v := (.slice (some ⟨bI, 0, none⟩) z.length de)) (v1 := (.slice (some ⟨bI, 0, none⟩) z.length de)) (ok := (fun _ => True)) (by (with_reducible repeat (first | apply zD | apply zE | apply zA)); exact zC u.out (fun _ hk => ⟨trivial, hk⟩)) hg (.inl rfl)); replace b := mA (Zaq (g := x) (o := .cells #[.int .i64 G, .int .i64 A, .slice I E.length J, .slice (some aI) c.length M] 63 (0, 0)) (bP b.out) hg (zQ q.out b.out (by decide))); replace q := mA (hp_); replace HB := mA ((by rw [hw]; exact Za7 (HB.out) e0.out : Below w.heap.size w dZ)); clear hg hw hp_))
         (try simp only [← s])
         go_roundg a9
         case measure => have := X.out; have := U.out; have := ae.out; have := an.out; omega
         case rel => exact ⟨(ba), (dV), (true), (wrap64 (m + 1)), (eW), (eW), H', ⟨by have := X.out; have := U.out; have := ae.out; have := an.out; omega⟩, ⟨by (try simp only [l]); (try simp only [d]); (try simp only [s]); (with_reducible repeat (first | apply zD | apply zE | apply zA)); exact zC u.out (fun _ hk => hk.2)⟩, ⟨by (try simp only [l]); (try simp only [d]); (try simp only [s]); exact rP q.out⟩, ⟨by (try simp only [l]); (try simp only [d]); (try simp only [s]); exact bP b.out⟩, ⟨bW⟩⟩
end Go.Proofs.Ytgindgodfcfgkaa.P
end M0
