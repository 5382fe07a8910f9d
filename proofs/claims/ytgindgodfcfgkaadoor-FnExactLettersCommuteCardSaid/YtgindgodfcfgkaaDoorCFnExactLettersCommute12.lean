import Derived.Test.YtgindgodfcfgkaaDoorCFnExactLettersCommute11
section M0
namespace Go.Proofs.YtgindgodfcfgkaaDoor.P
open Go.RowKit Go.Proofs.YtgindgodfcfgkaaDoor.Sh Go.Proofs.YtgindgodfcfgkaaDoorW.PrintWords Go.Proofs.YtgindgodfcfgkaaDoorW.PrintLast Go.Proofs.YtgindgodfcfgkaaDoorW.PrintMore
open Kd
attribute [local go_sem] Zcd Zca Zcn Zcm Zb1 Zb2 Zcc Zce   -- for this text's walks alone
set_option linter.unusedVariables false
set_option linter.unusedSimpArgs false
mutual
def Zak.l0 : Nat → List Bool → List Bool → Bool → Int → Int → List Bool → List (List Int) → Option (List Bool)
 | 0, _, _, _, _, _, _, _ => none
 | k + 1, x3, x4, x5, b, c, d, a => if x5 = true then (Zak.l1 k x3 x4 false a (a.length : Int) 0 b c d a) else (Zak.l3 k x3 x4 (x3.length : Int) 0)
def Zak.l1 : Nat → List Bool → List Bool → Bool → List (List Int) → Int → Int → Int → Int → List Bool → List (List Int) → Option (List Bool)
 | 0, _, _, _, _, _, _, _, _, _, _ => none
 | k + 1, x3, x4, x5, g, h, a, b, c, d, e => if a < h then (if 0 ≤ a then (if a < (g.length : Int) then (Zak.l2 k x3 x4 x5 a g h a (Zae g a) ((Zae g a).length : Int) 0 b c d e) else (none)) else (none)) else (Zak.l0 k x3 x4 x5 b c d e)
def Zak.l2 : Nat → List Bool → List Bool → Bool → Int → List (List Int) → Int → Int → List Int → Int → Int → Int → Int → List Bool → List (List Int) → Option (List Bool)
 | 0, _, _, _, _, _, _, _, _, _, _, _, _, _, _ => none
 | k + 1, x3, x4, x5, x6, h, i, j, g, l, a, b, c, d, e => if a < l then (if 0 ≤ a then (if a < (g.length : Int) then (if (rd g a) < 0 then (Zak.l2 k x3 x4 x5 x6 h i j g l (wrap64 (a + 1)) b c d e) else (if 0 ≤ x6 then (if x6 < (x3.length : Int) then (if rdOf false x3 x6 = true then (if 0 ≤ (rd g a) then (if (rd g a) < (x3.length : Int) then (Zak.j3 k x3 x4 x5 x6 (rd g a) h i j g l a (!(rdOf false x3 (rd g a))) b c d e) else (none)) else (none)) else (Zak.j3 k x3 x4 x5 x6 (rd g a) h i j g l a false b c d e)) else (none)) else (none))) else (none)) else (none)) else (Zak.l1 k x3 x4 x5 h i (wrap64 (j + 1)) b c d e)
def Zak.j3 : Nat → List Bool → List Bool → Bool → Int → Int → List (List Int) → Int → Int → List Int → Int → Int → Bool → Int → Int → List Bool → List (List Int) → Option (List Bool)
 | 0, _, _, _, _, _, _, _, _, _, _, _, _, _, _, _, _ => none
 | k + 1, x3, x4, x5, x6, x9, e, g, h, i, j, l, n, a, b, c, d => if n = true then (if 0 ≤ x9 then (if x9 < (x3.length : Int) then ((some (x3.set (x9 : Int).toNat true : List Bool)).bind fun m => (if x9 < (x4.length : Int) then (if rdOf false x4 x9 = true then (if 0 ≤ x6 then (if x6 < (x4.length : Int) then (if rdOf false x4 x6 = true then (Zak.l2 k m x4 true x6 e g h i j (wrap64 (l + 1)) a b c d) else (Zak.l2 k m (x4.set (x6 : Int).toNat true) true x6 e g h i j (wrap64 (l + 1)) a b c d)) else (none)) else (none)) else (Zak.l2 k m x4 true x6 e g h i j (wrap64 (l + 1)) a b c d)) else (none))) else (none)) else (none)) else (if 0 ≤ x9 then (if x9 < (x4.length : Int) then (if rdOf false x4 x9 = true then (if 0 ≤ x6 then (if x6 < (x4.length : Int) then (if rdOf false x4 x6 = true then (Zak.l2 k x3 x4 x5 x6 e g h i j (wrap64 (l + 1)) a b c d) else (Zak.l2 k x3 (x4.set (x6 : Int).toNat true) true x6 e g h i j (wrap64 (l + 1)) a b c d)) else (none)) else (none)) else (Zak.l2 k x3 x4 x5 x6 e g h i j (wrap64 (l + 1)) a b c d)) else (none)) else (none))
def Zak.l3 : Nat → List Bool → List Bool → Int → Int → Option (List Bool)
 | 0, _, _, _, _ => none
 | k + 1, x3, x4, b, a => if a < b then (if 0 ≤ a then (if a < (x3.length : Int) then (if rdOf false x3 a = true then (if a < (x4.length : Int) then (Zak.l3 k (x3.set (a : Int).toNat (rdOf false x4 a)) x4 b (wrap64 (a + 1))) else (none)) else (Zak.l3 k (x3.set (a : Int).toNat false) x4 b (wrap64 (a + 1)))) else (none)) else (none)) else (some x3)
end
def Zak.f (k : Nat) (e : Int) (a : Int) (c : List Bool) (b : List (List Int)) : Option (List Bool) := if 0 ≤ (b.length : Int) then (if ((b.length : Int) : Int).toNat ≤ 281474976710656 then ((some (List.replicate ((b.length : Int) : Int).toNat false : List Bool)).bind fun d => ((Zck.f c).bind fun g => (if 0 ≤ a then (if a < (d.length : Int) then (Zak.l0 k (d.set (a : Int).toNat true) g true e a c b) else (none)) else (none)))) else (none)) else (none)
def Zak.T1 : Bool × List (List Nat × List Nat) := (true, [([], []), ([0], [0]), ([1], [1]), ([2, 2], [2]), ([], []), ([4], [4]), ([5], [5]), ([3, 6, 0, 1, 2, 3], [3]), ([6, 7, 0, 1, 2, 3, 4, 5, 6, 7], [6])])
def Zak.B1 : List Nat := [0, 1, 3, 7, 0, 16, 48, 127, 255]
theorem Zak.tab1 : rtab .any (opsOf Tryd.f50 1) = Zak.T1 := by kernel_rfl
theorem Zak.bits1 : Zc0 Zak.T1.2 Zak.B1 = true := by kernel_rfl
set_option maxHeartbeats 8000000 in
set_option maxRecDepth 100000 in
theorem Zak.calls (k : Nat) (G : Int) (A : Int) (I : Option Addr) (J : Nat) (E : List Bool) (aa : Option Addr) (M : Nat) (c : List (List Int)) (r : List Bool) (w : World) (b8 : Kd.C Kd.bool w I E.length E) (b9 : E.length ≤ J) (ca : Kd.C (Kd.slice 2 (Kd.int .i64)) w aa c.length c) (cb : c.length ≤ M) (h : Zak.f k G A E c = some r) :
  Calls Tryd.prog 50 #[.agg #[.int .i64 G, .int .i64 A, .slice I E.length J, .slice aa c.length M]] w fun e w' => ∃ ec : Value, e = .returned (ec) ∧ Kd.R Kd.bool 4 w' w.heap.size (fun _ => True) ec r ∧ Below w.heap.size w w' := by
 have fk := Tryd.underlying48
 have cc := mA b8
 have cd := mA b9
 clear b8 b9
 have dE := mA ca
 have e6 := mA cb
 clear ca cb
 have HB := mA (Below.refl w.heap.size w)
 unfold Zak.f at h
 have H := h
 clear h
 by_cases c2 : 0 ≤ (c.length : Int); rotate_left
 ·rw [if_neg c2] at H
  exact absurd H (by simp)
 rw [if_pos c2] at H
 have ep := eq_true c2
 have er := dT c2
 clear c2
 by_cases c3 : ((c.length : Int) : Int).toNat ≤ 281474976710656; rotate_left
 ·rw [if_neg c3] at H
  exact absurd H (by simp)
 rw [if_pos c3] at H
 have es := eq_true c3
 have et := dT c3
 clear c3
 obtain ⟨ap, bf⟩ : ∃ y_ : List Bool, y_ = (List.replicate ((c.length : Int) : Int).toNat false) := ⟨_, rfl⟩
 replace H := bsm bf H
 have aP := mA bf
 clear bf
 replace H := bE H
 obtain ⟨aW, ed, H⟩ := H
 have A4 := mA ed
 clear ed
 by_cases c5 : 0 ≤ A; rotate_left
 ·rw [if_neg c5] at H
  exact absurd H (by simp)
 rw [if_pos c5] at H
 have eu := dT c5
 clear c5
 by_cases c6 : A < (ap.length : Int); rotate_left
 ·rw [if_neg c6] at H
  exact absurd H (by simp)
 rw [if_pos c6] at H
 have ev := dT c6
 clear c6
 obtain ⟨dc, bg⟩ : ∃ y_ : List Bool, y_ = (ap.set (A : Int).toNat true) := ⟨_, rfl⟩
 rw [← bg] at H
 have dG := mA bg
 clear bg
 have H' := mA H
 clear H
 go_enter Tryd.func50, Tryd.ntmps50
 try go_wp2_with (first | ((with_reducible refine Zap (N := 1) rfl ?_); refine boxS (N := 1) (cs := #[.int .i64 G, .int .i64 A, .slice I E.length J, .slice aa c.length M]) (t := 48) ?_; intro x hg w8 hbox hb; have b := mA (hbox); have e7 := geW (w := w) hg; have e8 := geW (w := w) hg; replace HB := mA (Zac (bW) hb); clear hb hbox hg))
 replace b := mA (Zad b.out)
 replace HB := mA (Za0 HB.out)
 refine Zcq (n := 9) (S := fun w' => w'.cell? ⟨x, 0, none⟩ = some (.int .i64 G) ∧ w'.cell? ⟨x, 1, none⟩ = some (.int .i64 A) ∧ w'.cell? ⟨x, 2, none⟩ = some (.slice I E.length J) ∧ w'.cell? ⟨x, 3, none⟩ = some (.slice aa c.length M)) (ds := []) #[false, false, false, false, false, false, false, false, false] (by kernel_rfl) rfl rfl ⟨bc b 0, bc b 1, bc b 2, bc b 3⟩ (fun hHeld => ?_); refine Zb7 Zak.tab1 Zak.bits1 (fun HT_ HW_ => ?_)
 generalize w8.drew = w9 at b HB hHeld ⊢
 refine Zan (i := 0) (N := some 11) (Zai HT_.out (by kernel_rfl)) ?_
 refine Zan (i := 4) (N := some 15) (Zai HT_.out (by kernel_rfl)) ?_
 refine Za8 (i := 1) (N := some 12) (Zaz HT_.out HW_.out (by kernel_rfl)) hHeld ?_
 refine Zan (i := 2) (N := some 13) (Zai HT_.out (by kernel_rfl)) ?_
 refine Za8 (i := 5) (N := some 16) (Zaz HT_.out HW_.out (by kernel_rfl)) hHeld ?_
 refine join_ (σ := Value × Value) 2 #[true, true, true, true, true, true, true, false, false] (fun s_ => [(14, s_.1), (17, s_.2)]) (fun s_ w' => (w'.cell? ⟨x, 0, none⟩ = some (.int .i64 G) ∧ w'.cell? ⟨x, 1, none⟩ = some (.int .i64 A) ∧ w'.cell? ⟨x, 2, none⟩ = some (.slice I E.length J) ∧ w'.cell? ⟨x, 3, none⟩ = some (.slice aa c.length M)) ∧ (Kd.R Kd.bool 4 w' w.heap.size (fun k_ => some k_ ≠ (s_.2 : Value).ownBlock) s_.1 ap) ∧ (Kd.R Kd.bool 4 w' w.heap.size (fun k_ => some k_ ≠ (s_.1 : Value).ownBlock) s_.2 aW) ∧ (w'.heap[x]? = some (.cells #[.int .i64 G, .int .i64 A, .slice I E.length J, .slice aa c.length M] 48 (0, 0))) ∧ (Below w.heap.size w w')) ?_ ?_
 rotate_left
 ·intro hCont
  refine two_ (i := 3) (j := 6) (Ni := some 14) (Nj := some 17) #[true, true, true, true, true, true, false, false, false] #[true, true, true, false, true, true, true, false, false] rfl rfl rfl rfl (two_of HT_.out (by kernel_rfl)) (by decide) (by decide) (fun K hK => ?_) (fun K hK => ?_)
  ·skip
   refine qF Kd.bool _ 4 (by rfl) (N := 14) rfl 46 _ _ rfl (c.length : Int) rfl rfl Tryd.underlying46 (.bool false) 1 info4 rfl (by decide) (by omega) false (ok := fun _ => True) (okp := fun _ => True) rfl (fun _ hk => hk) trivial (ofD) (Nat.le_trans (Nat.mul_le_mul_right _ (ofD : (c.length : Int).toNat ≤ 281474976710656)) (by omega)) (Below.refl _ _) (Nat.le_refl _) ?_
   intro aL eT aX hb hg_ hnew_
   clear hg_ hnew_
   (first | rw [← aP.out] at aX | (simp only [Int.reduceToNat] at aX; rw [← aP.out] at aX))
   have U := mA (zP aX (Zag (bW)))
   replace b := mA (blkB b.out hb)
   replace HB := mA (Zac (bW) hb)
   clear hb aX
   refine hK.out _ _ ⟨bc b 0, bc b 1, bc b 2, bc b 3⟩ (fun hHeld => ?_)
   clear hK K
   refine putS 14 ?_
   refine one_ (i := 6) (N := some 17) #[true, true, true, true, true, true, true, false, false] rfl rfl (Za9 HT_.out (by kernel_rfl)) (by decide) (fun K hK => ?_)
   refine Zb6 Tryd.func72 (by kernel_rfl) rfl #[.slice I E.length J] (by rfl) rfl rfl (by (try simp only [List.map_toArray, List.map_cons, List.map_nil]); first | done | rfl | (simp only [List.length_drop, List.length_take]; rfl)) ?_
   with_reducible refine (Zck.calls _ _ E aW _ ?side1 ?side2 A4.out).mono ?_
   (case side1 => exact cP (zF cc.out HB.out))
   (case side2 => exact cd.out)
   rintro e fC ⟨P, rfl, a4, hb⟩
   refine ⟨_, rfl, ?_⟩
   have af := mA (zP (zS a4 (zG (rP U.out))) (Zag (bW)))
   replace U := mA (zR (rP U.out) (zH a4) hb)
   replace b := mA (blkB b.out hb)
   replace HB := mA (Zac (bW) hb)
   (try clear hb)
   (try clear hb2)
   (try clear hk)
   (try clear hi)
   (try clear a4)
   refine hK.out _ _ ⟨bc b 0, bc b 1, bc b 2, bc b 3⟩ (fun hHeld => ?_)
   clear hK K
   refine putS 17 ?_
   exact norm_ (by simp only [putAll, Act.put, List.setIfInBounds_toArray, List.set_cons_zero, List.set_cons_succ]) (hCont (aL, P) _ ⟨hHeld, (by (with_reducible repeat (first | apply zC | apply zD | apply zA)); exact zB U.out (fun _ hk => hk.2)), (by (with_reducible repeat (first | apply zC | apply zD | apply zA)); exact zB af.out (fun _ hk => hk.2)), (bP b.out), (bW)⟩)
  skip
  refine Zb6 Tryd.func72 (by kernel_rfl) rfl #[.slice I E.length J] (by rfl) rfl rfl (by (try simp only [List.map_toArray, List.map_cons, List.map_nil]); first | done | rfl | (simp only [List.length_drop, List.length_take]; rfl)) ?_
  with_reducible refine (Zck.calls _ _ E aW _ ?side1 ?side2 A4.out).mono ?_
  (case side1 => exact cP (zF cc.out HB.out))
  (case side2 => exact cd.out)
  rintro e eT ⟨P, rfl, a4, hb⟩
  refine ⟨_, rfl, ?_⟩
  have af := mA (zP a4 (Zag (bW)))
  replace b := mA (blkB b.out hb)
  replace HB := mA (Zac (bW) hb)
  (try clear hb)
  (try clear hb2)
  (try clear hk)
  (try clear hi)
  (try clear a4)
  refine hK.out _ _ ⟨bc b 0, bc b 1, bc b 2, bc b 3⟩ (fun hHeld => ?_)
  clear hK K
  refine putS 17 ?_
  refine one_ (i := 3) (N := some 14) #[true, true, true, true, true, true, true, false, false] rfl rfl (Za9 HT_.out (by kernel_rfl)) (by decide) (fun K hK => ?_)
  refine qF Kd.bool _ 4 (by rfl) (N := 14) rfl 46 _ _ rfl (c.length : Int) rfl rfl Tryd.underlying46 (.bool false) 1 info4 rfl (by decide) (by omega) false (ok := fun _ => True) (okp := fun _ => True) rfl (fun _ hk => hk) trivial (ofD) (Nat.le_trans (Nat.mul_le_mul_right _ (ofD : (c.length : Int).toNat ≤ 281474976710656)) (by omega)) (Below.refl _ _) (Nat.le_refl _) ?_
  intro aL fD aM hb hg_ hnew_
  clear hg_ hnew_
  (first | rw [← aP.out] at aM | (simp only [Int.reduceToNat] at aM; rw [← aP.out] at aM))
  have U := mA (zP (zS aM (zG (rP af.out))) (Zag (bW)))
  replace af := mA (zR (rP af.out) (zH aM) hb)
  replace b := mA (blkB b.out hb)
  replace HB := mA (Zac (bW) hb)
  clear hb aM
  refine hK.out _ _ ⟨bc b 0, bc b 1, bc b 2, bc b 3⟩ (fun hHeld => ?_)
  clear hK K
  refine putS 14 ?_
  exact norm_ (by simp only [putAll, Act.put, List.setIfInBounds_toArray, List.set_cons_zero, List.set_cons_succ]) (hCont (aL, P) _ ⟨hHeld, (by (with_reducible repeat (first | apply zC | apply zD | apply zA)); exact zB U.out (fun _ hk => hk.2)), (by (with_reducible repeat (first | apply zC | apply zD | apply zA)); exact zB af.out (fun _ hk => hk.2)), (bP b.out), (bW)⟩)
 rintro ⟨aL, P⟩ w13 ⟨hS_, ee, ef, eg, eh⟩
 have ei : Zaa (Kd.R Kd.bool 4 w13 w.heap.size (fun k_ => some k_ ≠ (P : Value).ownBlock) aL ap) := ⟨ee⟩
 have ej : Zaa (Kd.R Kd.bool 4 w13 w.heap.size (fun k_ => some k_ ≠ (aL : Value).ownBlock) P aW) := ⟨ef⟩
 have ek : Zaa (w13.heap[x]? = some (.cells #[.int .i64 G, .int .i64 A, .slice I E.length J, .slice aa c.length M] 48 (0, 0))) := ⟨eg⟩
 have el : Zaa (Below w.heap.size w w13) := ⟨eh⟩
 clear b HB ee ef eg eh; have U := ei; have af := ej; have b := ek; have HB := el; clear ei ej ek el
 have hHeld : w13.cell? ⟨x, 0, none⟩ = some (.int .i64 G) ∧ w13.cell? ⟨x, 1, none⟩ = some (.int .i64 A) ∧ w13.cell? ⟨x, 2, none⟩ = some (.slice I E.length J) ∧ w13.cell? ⟨x, 3, none⟩ = some (.slice aa c.length M) := hS_
 refine norm_ (a' := ?_) ?_ ?_
 rotate_left
 ·simp only [putAll, Act.put, List.setIfInBounds_toArray, List.set_cons_zero, List.set_cons_succ]
  rfl
 refine Zan (i := 7) (N := some 3) (Zai HT_.out (by kernel_rfl)) ?_
 refine Zan (i := 8) (N := some 4) (Zai HT_.out (by kernel_rfl)) ?_
 refine Zcz (Zct HT_.out (by kernel_rfl)) ?_
 have cM : w13.cell? ⟨x, 0, none⟩ = some (.int .i64 G) := bc b 0
 have cN : w13.cell? ⟨x, 1, none⟩ = some (.int .i64 A) := bc b 1
 have cO : w13.cell? ⟨x, 2, none⟩ = some (.slice I E.length J) := bc b 2
 have cQ : w13.cell? ⟨x, 3, none⟩ = some (.slice aa c.length M) := bc b 3
 have cR := Zab b.out 0
 have cS := Zab b.out 1
 have cT := Zab b.out 2
 have cU := Zab b.out 3
 have p7 : 0 ≤ (A : Int) := ofD
 have q7 : (A : Int) < ((ap.length : Int) : Int) := ofD
 obtain ⟨D, O, em, en, eU, fE, eo⟩ := yV U.out (by omega)
 (first | cases em | (injection em with ea_ en_ ec_; (first | subst ea_ | (injection ea_ with ea_; subst ea_)); subst ec_; clear en_))
 have a5 := mA en
 have fF := mA eo
 clear en eU eo
 obtain ⟨dH, e9⟩ := yH false U.out (A : Int) p7 q7
 replace p7 := eq_true p7
 replace q7 := eq_true q7
 obtain ⟨fa, fb⟩ := yH false U.out (A : Int) (ofD) (ofD)
 have bM := yN U.out (A : Int) true
 try go_wp2_with (first | ((with_reducible refine Zbp (t := 4) (p := 21) rfl ?_); refine Zdi (t := 4) (p := 21) (w1 := (w13.setCell ⟨D, (A : Int).toNat, none⟩ (.bool true))) ?_; intro dd hw; have hg : w13.grownBy dd (some D) := (by rw [hw]; exact bM.2); have hp_ : Kd.R Kd.bool 4 dd w.heap.size (fun k_ => some k_ ≠ (P : Value).ownBlock) (.slice (some ⟨D, 0, none⟩) ap.length O) dc := (by rw [hw, dG.out]; exact bM.1); clear bM; replace b := mA (Zaq (g := x) (o := .cells #[.int .i64 G, .int .i64 A, .slice I E.length J, .slice aa c.length M] 48 (0, 0)) (bP b.out) hg (zO U.out b.out (by decide))); replace U := mA (hp_); replace af := mA (zU (v := (.slice (some ⟨D, 0, none⟩) ap.length O)) (v1 := (.slice (some ⟨D, 0, none⟩) ap.length O)) (ok := (fun _ => True)) (by (with_reducible repeat (first | apply zC | apply zD | apply zA)); exact zB af.out (fun _ hk => ⟨trivial, hk⟩)) hg (.inl rfl)); replace HB := mA ((by rw [hw]; exact Zbs (HB.out) a5.out : Below w.heap.size w dd)); clear hg hw hp_))
 go_loopg [5] k (fun kq v5 w' => ∃ (ak : List Bool) (ag : List Bool) (bh : Bool), v5 = .bool bh ∧ Zaa (Zak.l0 kq ak ag bh G A E c = some r) ∧ Zaa (kq ≤ k) ∧ Zaa (Kd.R Kd.bool 4 w' w.heap.size (fun k_ => some k_ ≠ (P : Value).ownBlock) (.slice (some ⟨D, 0, none⟩) ap.length O) ak) ∧ Zaa (Kd.R Kd.bool 4 w' w.heap.size (fun k_ => some k_ ≠ ((.slice (some ⟨D, 0, none⟩) ap.length O) : Value).ownBlock) P ag) ∧ Zaa (w'.heap[x]? = some (.cells #[.int .i64 G, .int .i64 A, (.slice I E.length J), (.slice aa c.length M)] 48 (0, 0))) ∧ Zaa (Below w.heap.size w w'))
 case atStart => exact ⟨(dc), (aW), (true), (eW), H', ⟨Nat.le_refl _⟩, ⟨rP U.out⟩, ⟨by (with_reducible repeat (first | apply zC | apply zD | apply zA)); exact zB af.out (fun _ hk => hk.2)⟩, ⟨bP b.out⟩, ⟨bW⟩⟩
 case round =>
  clear H' ep er es et eu ev p7 q7 cM cN cO cQ cR cS cT cU dH
  obtain ⟨ak, ag, bh, rfl, HA, W, u, q, b, HB⟩ := hrel
  have l := (zE u.out).1
  rw [l] at u
  (try simp only [l])
  (try simp only [l] at b)
  (try simp only [l] at q)
  cases gk with
  | zero => exact absurd HA.out (by simp [Zak.l0])
  | succ k1 =>
   have H := HA.out
   clear HA
   simp only [Zak.l0] at H
   by_cases ce : bh = true; rotate_left
   ·replace ce := Bool.eq_false_iff.mpr ce
    subst ce
    rw [iF] at H
    have H' := mA H
    clear H
    go_wp2
    go_loopg [71] k1 (fun kq v71 w' => ∃ (L : List Bool) (y : Int), v71 = .int .i64 y ∧ Zaa (Zak.l3 kq L ag (ak.length : Int) y = some r) ∧ Zaa (kq ≤ k1) ∧ Zaa (Kd.R Kd.bool 4 w' w.heap.size (fun k_ => some k_ ≠ (P : Value).ownBlock) (.slice (some ⟨D, 0, none⟩) ak.length O) L) ∧ Zaa (Kd.R Kd.bool 4 w' w.heap.size (fun k_ => some k_ ≠ ((.slice (some ⟨D, 0, none⟩) ak.length O) : Value).ownBlock) P ag) ∧ Zaa (w'.heap[x]? = some (.cells #[.int .i64 G, .int .i64 A, (.slice I E.length J), (.slice aa c.length M)] 48 (0, 0))) ∧ Zaa (Below w.heap.size w w'))
    case atStart => exact ⟨(ak), (0), (eW), H', ⟨Nat.le_refl _⟩, ⟨by (try simp only [l]); exact rP u.out⟩, ⟨by (try simp only [l]); exact rP q.out⟩, ⟨by (try simp only [l]); exact bP b.out⟩, ⟨bW⟩⟩
    case round =>
     clear H'
     obtain ⟨L, y, rfl, HA, T, u, q, b, HB⟩ := hrel
     have d := (zE u.out).1
     rw [d] at u
     (try simp only [d])
     (try simp only [d] at b)
     (try simp only [d] at q)
     cases gk with
     | zero => exact absurd HA.out (by simp [Zak.l3])
     | succ k2 =>
      have H := HA.out
      clear HA
      simp only [Zak.l3] at H
      by_cases a6 : y < (ak.length : Int); rotate_left
      ·rw [if_neg a6] at H
       have bi := dF a6
       (try (have bj := bi; simp only [l, d] at bj))
       clear a6
       obtain rfl := oI H
       go_wp2
       go_ret
       exact ⟨_, eW, by (with_reducible repeat (first | apply zC | apply zD | apply zA)); exact zB u.out (fun _ hk => trivial), bW⟩
      rw [if_pos a6] at H
      have bi := dT a6
      (try (have bj := bi; simp only [l, d] at bj))
      clear a6
      by_cases cf : 0 ≤ y; rotate_left
      ·rw [if_neg cf] at H
       exact absurd H (by simp)
      rw [if_pos cf] at H
      have fc := dT cf
      clear cf
      by_cases cg : y < (L.length : Int); rotate_left
      ·rw [if_neg cg] at H
       exact absurd H (by simp)
      rw [if_pos cg] at H
      have dI := dT cg
      (try (have dJ := dI; simp only [l, d] at dJ))
      clear cg
      obtain ⟨ew, bk⟩ : ∃ b_ : Bool, b_ = (rdOf false L y) := ⟨_, rfl⟩
      rw [← bk] at H
      have bl := mA bk
      clear bk
      by_cases ch : ew = true; rotate_left
      ·replace ch := Bool.eq_false_iff.mpr ch
       subst ch
       rw [iF] at H
       obtain ⟨de, bm⟩ : ∃ y_ : List Bool, y_ = (L.set (y : Int).toNat false) := ⟨_, rfl⟩
       rw [← bm] at H
       have dK := mA bm
       clear bm
       have H' := mA H
       clear H
       have aA : 0 ≤ (y : Int) := ofD
       have aB : y < (L.length : Int) := ofD
       obtain ⟨bn, bN, X⟩ := yF (zE u.out).2.2 y aA aB
       (try rw [← bl.out] at X)
       obtain rfl : (⟨D, 0, none⟩ : Addr) = bn := (by injection bN)
       (first | simp only [Zco] at X | simp only [add_at] at X | simp only [Addr.add, Nat.zero_add] at X | skip)
       replace aA := eq_true aA
       replace aB := eq_true aB
       have df : 0 ≤ (y : Int) := ofD
       have dg : (y : Int) < ((L.length : Int) : Int) := ofD
       obtain ⟨eV, eX⟩ := yH false u.out (y : Int) df dg
       replace df := eq_true df
       replace dg := eq_true dg
       have bO := yN u.out (y : Int) false
       go_wp2_with (first | ((with_reducible refine Zbp (t := 4) (p := 86) rfl ?_); refine Zdi (t := 4) (p := 86) (w1 := (wr.setCell ⟨D, (y : Int).toNat, none⟩ (.bool false))) ?_; intro dh hw; have hg : wr.grownBy dh (some D) := (by rw [hw]; exact bO.2); have hp_ : Kd.R Kd.bool 4 dh w.heap.size (fun k_ => some k_ ≠ (P : Value).ownBlock) (.slice (some ⟨D, 0, none⟩) L.length O) de := (by rw [hw, dK.out]; exact bO.1); clear bO; replace q := mA (zU (v := (.slice (some ⟨D, 0, none⟩) L.length O)) (v1 := (.slice (some ⟨D, 0, none⟩) L.length O)) (ok := (fun _ => True)) (by (with_reducible repeat (first | apply zC | apply zD | apply zA)); exact zB q.out (fun _ hk => ⟨trivial, hk⟩)) hg (.inl rfl)); replace b := mA (Zaq (g := x) (o := .cells #[.int .i64 G, .int .i64 A, .slice I E.length J, .slice aa c.length M] 48 (0, 0)) (bP b.out) hg (zO u.out b.out (by decide))); replace u := mA (hp_); replace HB := mA ((by rw [hw]; exact Zbs (HB.out) a5.out : Below w.heap.size w dh)); clear hg hw hp_))
       (try simp only [← d])
       go_roundg k2
       case measure => have := W.out; have := T.out; omega
       case rel => exact ⟨(de), (wrap64 (y + 1)), (eW), H', ⟨by have := W.out; have := T.out; omega⟩, ⟨by (try simp only [l]); (try simp only [d]); exact rP u.out⟩, ⟨by (try simp only [l]); (try simp only [d]); (with_reducible repeat (first | apply zC | apply zD | apply zA)); exact zB q.out (fun _ hk => hk.2)⟩, ⟨by (try simp only [l]); (try simp only [d]); exact bP b.out⟩, ⟨bW⟩⟩
      subst ch
      rw [if_pos rfl] at H
      by_cases ci : y < (ag.length : Int); rotate_left
      ·rw [if_neg ci] at H
       exact absurd H (by simp)
      rw [if_pos ci] at H
      have dL := dT ci
      (try (have dM := dL; simp only [l, d] at dM))
      clear ci
      obtain ⟨di, bo⟩ : ∃ y_ : List Bool, y_ = (L.set (y : Int).toNat (rdOf false ag y)) := ⟨_, rfl⟩
      rw [← bo] at H
      have dN := mA bo
      clear bo
      have H' := mA H
      clear H
      have aA : 0 ≤ (y : Int) := ofD
      have aB : y < (L.length : Int) := ofD
      obtain ⟨bn, bN, X⟩ := yF (zE u.out).2.2 y aA aB
      (try rw [← bl.out] at X)
      obtain rfl : (⟨D, 0, none⟩ : Addr) = bn := (by injection bN)
      (first | simp only [Zco] at X | simp only [add_at] at X | simp only [Addr.add, Nat.zero_add] at X | skip)
      replace aA := eq_true aA
      replace aB := eq_true aB
      obtain ⟨fl, ey, ez⟩ := zJ q.out
      subst ez
      have bQ : 0 ≤ (y : Int) := ofD
      have bR : y < (ag.length : Int) := ofD
      obtain ⟨dO, eA, cV⟩ := yF (zE q.out).2.2 y bQ bR
      (try rw [← bl.out] at cV)
      cases eA
      replace bQ := eq_true bQ
      replace bR := eq_true bR
      have dj : 0 ≤ (y : Int) := ofD
      have dk : (y : Int) < ((L.length : Int) : Int) := ofD
      obtain ⟨eY, eZ⟩ := yH false u.out (y : Int) dj dk
      replace dj := eq_true dj
      replace dk := eq_true dk
      have bS := yN u.out (y : Int) (rdOf false ag y)
      go_wp2_with (first | ((with_reducible refine Zbp (t := 4) (p := 86) rfl ?_); refine Zdi (t := 4) (p := 86) (w1 := (wr.setCell ⟨D, (y : Int).toNat, none⟩ (.bool (rdOf false ag y)))) ?_; intro dl hw; have hg : wr.grownBy dl (some D) := (by rw [hw]; exact bS.2); have hp_ : Kd.R Kd.bool 4 dl w.heap.size (fun k_ => some k_ ≠ (.slice (some dO) ag.length ey : Value).ownBlock) (.slice (some ⟨D, 0, none⟩) L.length O) di := (by rw [hw, dN.out]; exact bS.1); clear bS; replace q := mA (zU (v := (.slice (some ⟨D, 0, none⟩) L.length O)) (v1 := (.slice (some ⟨D, 0, none⟩) L.length O)) (ok := (fun _ => True)) (by (with_reducible repeat (first | apply zC | apply zD | apply zA)); exact zB q.out (fun _ hk => ⟨trivial, hk⟩)) hg (.inl rfl)); replace b := mA (Zaq (g := x) (o := .cells #[.int .i64 G, .int .i64 A, .slice I E.length J, .slice aa c.length M] 48 (0, 0)) (bP b.out) hg (zO u.out b.out (by decide))); replace u := mA (hp_); replace HB := mA ((by rw [hw]; exact Zbs (HB.out) a5.out : Below w.heap.size w dl)); clear hg hw hp_))
      (try simp only [← d])
      go_roundg k2
      case measure => have := W.out; have := T.out; omega
      case rel => exact ⟨(di), (wrap64 (y + 1)), (eW), H', ⟨by have := W.out; have := T.out; omega⟩, ⟨by (try simp only [l]); (try simp only [d]); exact rP u.out⟩, ⟨by (try simp only [l]); (try simp only [d]); (with_reducible repeat (first | apply zC | apply zD | apply zA)); exact zB q.out (fun _ hk => hk.2)⟩, ⟨by (try simp only [l]); (try simp only [d]); exact bP b.out⟩, ⟨bW⟩⟩
   subst ce
   rw [if_pos rfl] at H
   have H' := mA H
   clear H
   have cW : wr.cell? ⟨x, 0, none⟩ = some (.int .i64 G) := bc b 0
   have cX : wr.cell? ⟨x, 1, none⟩ = some (.int .i64 A) := bc b 1
   have cY : wr.cell? ⟨x, 2, none⟩ = some (.slice I E.length J) := bc b 2
   have cZ : wr.cell? ⟨x, 3, none⟩ = some (.slice aa c.length M) := bc b 3
   have c0 := Zab b.out 0
   have c1 := Zab b.out 1
   have da := Zab b.out 2
   have db := Zab b.out 3
   go_wp2
   go_loopg [5, 26] k1 (fun kq v5 v26 w' => ∃ (L : List Bool) (aY : List Bool) (aZ : Bool) (a : Int), v5 = .bool aZ ∧ v26 = .int .i64 a ∧ Zaa (Zak.l1 kq L aY aZ c (c.length : Int) a G A E c = some r) ∧ Zaa (kq ≤ k1) ∧ Zaa (Kd.R Kd.bool 4 w' w.heap.size (fun k_ => some k_ ≠ (P : Value).ownBlock) (.slice (some ⟨D, 0, none⟩) ak.length O) L) ∧ Zaa (Kd.R Kd.bool 4 w' w.heap.size (fun k_ => some k_ ≠ ((.slice (some ⟨D, 0, none⟩) ak.length O) : Value).ownBlock) P aY) ∧ Zaa (w'.heap[x]? = some (.cells #[.int .i64 G, .int .i64 A, (.slice I E.length J), (.slice aa c.length M)] 48 (0, 0))) ∧ Zaa (Below w.heap.size w w'))
   case atStart => exact ⟨(ak), (ag), (false), (0), (eW), (eW), H', ⟨Nat.le_refl _⟩, ⟨by (try simp only [l]); exact rP u.out⟩, ⟨by (try simp only [l]); exact rP q.out⟩, ⟨by (try simp only [l]); exact bP b.out⟩, ⟨bW⟩⟩
   case round =>
    clear H' cW cX cY cZ c0 c1 da db
    obtain ⟨L, aY, aZ, a, rfl, rfl, HA, T, u, q, b, HB⟩ := hrel
    have d := (zE u.out).1
    rw [d] at u
    (try simp only [d])
    (try simp only [d] at b)
    (try simp only [d] at q)
    cases gk with
    | zero => exact absurd HA.out (by simp [Zak.l1])
    | succ k2 =>
     have H := HA.out
     clear HA
     simp only [Zak.l1] at H
     by_cases a7 : a < (c.length : Int); rotate_left
     ·rw [if_neg a7] at H
      have aQ := dF a7
      (try (have bp := aQ; simp only [l, d] at bp))
      clear a7
      have H' := mA H
      clear H
      go_wp2
      (try simp only [← l, ← d])
      go_roundg k2
      case measure => have := W.out; have := T.out; omega
      case rel => exact ⟨(L), (aY), (aZ), (eW), H', ⟨by have := W.out; have := T.out; omega⟩, ⟨by (try simp only [l]); (try simp only [d]); exact rP u.out⟩, ⟨by (try simp only [l]); (try simp only [d]); exact rP q.out⟩, ⟨by (try simp only [l]); (try simp only [d]); exact bP b.out⟩, ⟨bW⟩⟩
     rw [if_pos a7] at H
     have aQ := dT a7
     (try (have bp := aQ; simp only [l, d] at bp))
     clear a7
     by_cases cj : 0 ≤ a; rotate_left
     ·rw [if_neg cj] at H
      exact absurd H (by simp)
     rw [if_pos cj] at H
     have dP := dT cj
     clear cj
     by_cases ck : a < (c.length : Int); rotate_left
     ·rw [if_neg ck] at H
      exact absurd H (by simp)
     rw [if_pos ck] at H
     have cm := dT ck
     (try (have dQ := cm; simp only [l, d] at dQ))
     clear ck
     have H' := mA H
     clear H
     have bq : 0 ≤ (a : Int) := ofD
     have br : a < (c.length : Int) := ofD
     obtain ⟨aq, e0, e1, eB, ay, a8, a9⟩ := Zch dE.out a bq br
     cases eB
     replace ay := (HB.out.cell (wB w ay)).trans ay
     have ba := mA a9
     have eS := mA a8
     clear a9 a8
     replace bq := eq_true bq
     replace br := eq_true br
     go_wp2
     go_loopg [5, 33] k2 (fun kq v5 v33 w' => ∃ (B : List Bool) (z : List Bool) (ar : Bool) (m : Int), v5 = .bool ar ∧ v33 = .int .i64 m ∧ Zaa (Zak.l2 kq B z ar a c (c.length : Int) a (Zae c a) ((Zae c a).length : Int) m G A E c = some r) ∧ Zaa (kq ≤ k2) ∧ Zaa (Kd.R Kd.bool 4 w' w.heap.size (fun k_ => some k_ ≠ (P : Value).ownBlock) (.slice (some ⟨D, 0, none⟩) L.length O) B) ∧ Zaa (Kd.R Kd.bool 4 w' w.heap.size (fun k_ => some k_ ≠ ((.slice (some ⟨D, 0, none⟩) L.length O) : Value).ownBlock) P z) ∧ Zaa (w'.heap[x]? = some (.cells #[.int .i64 G, .int .i64 A, (.slice I E.length J), (.slice (some aq) c.length M)] 48 (0, 0))) ∧ Zaa (Below w.heap.size w w'))
     case atStart => exact ⟨(L), (aY), (aZ), (0), (eW), (eW), H', ⟨Nat.le_refl _⟩, ⟨by (try simp only [l]); (try simp only [d]); exact rP u.out⟩, ⟨by (try simp only [l]); (try simp only [d]); exact rP q.out⟩, ⟨by (try simp only [l]); (try simp only [d]); exact bP b.out⟩, ⟨bW⟩⟩
     case round =>
      clear H' aQ dP cm ay bq br
      obtain ⟨B, z, ar, m, rfl, rfl, HA, ae, u, q, b, HB⟩ := hrel
      have s := (zE u.out).1
      rw [s] at u
      (try simp only [s])
      (try simp only [s] at b)
      (try simp only [s] at q)
      cases gk with
      | zero => exact absurd HA.out (by simp [Zak.l2])
      | succ k3 =>
       have H := HA.out
       clear HA
       simp only [Zak.l2] at H
       by_cases bb : m < ((Zae c a).length : Int); rotate_left
       ·rw [if_neg bb] at H
        have aR := dF bb
        (try (have bs := aR; simp only [l, d, s] at bs))
        clear bb
        have H' := mA H
        clear H
        go_wp2
        (try simp only [← d, ← s])
        go_roundg k3
        case measure => have := W.out; have := T.out; have := ae.out; omega
        case rel => exact ⟨(B), (z), (ar), (wrap64 (a + 1)), (eW), (eW), H', ⟨by have := W.out; have := T.out; have := ae.out; omega⟩, ⟨by (try simp only [l]); (try simp only [d]); (try simp only [s]); exact rP u.out⟩, ⟨by (try simp only [l]); (try simp only [d]); (try simp only [s]); exact rP q.out⟩, ⟨by (try simp only [l]); (try simp only [d]); (try simp only [s]); exact bP b.out⟩, ⟨bW⟩⟩
       rw [if_pos bb] at H
       have aR := dT bb
       (try (have bs := aR; simp only [l, d, s] at bs))
       clear bb
       by_cases cn : 0 ≤ m; rotate_left
       ·rw [if_neg cn] at H
        exact absurd H (by simp)
       rw [if_pos cn] at H
       have dR := dT cn
       clear cn
       by_cases co : m < ((Zae c a).length : Int); rotate_left
       ·rw [if_neg co] at H
        exact absurd H (by simp)
       rw [if_pos co] at H
       have cp := dT co
       (try (have dS := cp; simp only [l, d, s] at dS))
       clear co
       by_cases bd : (rd (Zae c a) m) < 0
       ·rw [if_pos bd] at H
        have cq := dT bd
        clear bd
        have H' := mA H
        clear H
        have au : 0 ≤ (m : Int) := ofD
        have av : m < ((Zae c a).length : Int) := ofD
        obtain ⟨dU, bT, ab⟩ := zI ba.out m au av
        cases bT
        replace ab := (HB.out.cell (wB w ab)).trans ab
        replace au := eq_true au
        replace av := eq_true av
        go_wp2
        (try simp only [← s])
        go_roundg k3
        case measure => have := W.out; have := T.out; have := ae.out; omega
        case rel => exact ⟨(B), (z), (ar), (wrap64 (m + 1)), (eW), (eW), H', ⟨by have := W.out; have := T.out; have := ae.out; omega⟩, ⟨by (try simp only [l]); (try simp only [d]); (try simp only [s]); exact rP u.out⟩, ⟨by (try simp only [l]); (try simp only [d]); (try simp only [s]); exact rP q.out⟩, ⟨by (try simp only [l]); (try simp only [d]); (try simp only [s]); exact bP b.out⟩, ⟨bW⟩⟩
       rw [if_neg bd] at H
       have cq := dF bd
       clear bd
       have bU := mA H
       clear H
       have au : 0 ≤ (m : Int) := ofD
       have av : m < ((Zae c a).length : Int) := ofD
       obtain ⟨dU, bT, ab⟩ := zI ba.out m au av
       cases bT
       replace ab := (HB.out.cell (wB w ab)).trans ab
       replace au := eq_true au
       replace av := eq_true av
       go_upto_region 13 with (fail)
       go_cut [49] (fun v49 wc => ∃ (kq : Nat) (aI : Bool), v49 = .bool aI ∧ Zaa (Zak.j3 kq B z ar a (rd (Zae c a) m) c (c.length : Int) a (Zae c a) ((Zae c a).length : Int) m aI G A E c = some r) ∧ Zaa (kq ≤ k3) ∧ Zaa (Kd.R Kd.bool 4 wc w.heap.size (fun k_ => some k_ ≠ (P : Value).ownBlock) (.slice (some ⟨D, 0, none⟩) B.length O) B) ∧ Zaa (Kd.R Kd.bool 4 wc w.heap.size (fun k_ => some k_ ≠ ((.slice (some ⟨D, 0, none⟩) B.length O) : Value).ownBlock) P z) ∧ Zaa (wc.heap[x]? = some (.cells #[.int .i64 G, .int .i64 A, (.slice I E.length J), (.slice (some aq) c.length M)] 48 (0, 0))) ∧ Zaa (Below w.heap.size w wc))
       case first =>
        have H := bU.out
        clear bU
        by_cases cr : 0 ≤ a; rotate_left
        ·rw [if_neg cr] at H
         exact absurd H (by simp)
        rw [if_pos cr] at H
        have ct := dT cr
        clear cr
        (first | rw [ct] | (simp only [i64_w, i32_w]; rw [ct]) | skip)
        by_cases cu : a < (B.length : Int); rotate_left
        ·rw [if_neg cu] at H
         exact absurd H (by simp)
        rw [if_pos cu] at H
        have dV := dT cu
        (try (have dW := dV; simp only [l, d, s] at dW))
        clear cu
        obtain ⟨eC, bu⟩ : ∃ b_ : Bool, b_ = (rdOf false B a) := ⟨_, rfl⟩
        rw [← bu] at H
        have bv := mA bu
        clear bu
        by_cases cv : eC = true; rotate_left
        ·replace cv := Bool.eq_false_iff.mpr cv
         subst cv
         rw [iF] at H
         have H' := mA H
         clear H
         have aC : 0 ≤ (a : Int) := ofD
         have aD : a < (B.length : Int) := ofD
         obtain ⟨bw, bV, Y⟩ := yF (zE u.out).2.2 a aC aD
         (try rw [← bv.out] at Y)
         obtain rfl : (⟨D, 0, none⟩ : Addr) = bw := (by injection bV)
         (first | simp only [Zco] at Y | simp only [add_at] at Y | simp only [Addr.add, Nat.zero_add] at Y | skip)
         replace aC := eq_true aC
         replace aD := eq_true aD
         go_wp2
         go_meet
         case rel => exact ⟨_, (false), (eW), H', ⟨by have := W.out; have := T.out; have := ae.out; first | omega | exact Nat.le_refl _⟩, ⟨by (try simp only [l]); (try simp only [d]); (try simp only [s]); exact rP u.out⟩, ⟨by (try simp only [l]); (try simp only [d]); (try simp only [s]); exact rP q.out⟩, ⟨by (try simp only [l]); (try simp only [d]); (try simp only [s]); exact bP b.out⟩, ⟨bW⟩⟩
        subst cv
        rw [if_pos rfl] at H
        by_cases cw : 0 ≤ (rd (Zae c a) m); rotate_left
        ·rw [if_neg cw] at H
         exact absurd H (by simp)
        rw [if_pos cw] at H
        have fd := dT cw
        clear cw
        by_cases cx : (rd (Zae c a) m) < (B.length : Int); rotate_left
        ·rw [if_neg cx] at H
         exact absurd H (by simp)
        rw [if_pos cx] at H
        have dX := dT cx
        (try (have dY := dX; simp only [l, d, s] at dY))
        clear cx
        have H' := mA H
        clear H
        have aC : 0 ≤ (a : Int) := ofD
        have aD : a < (B.length : Int) := ofD
        obtain ⟨bw, bV, Y⟩ := yF (zE u.out).2.2 a aC aD
        (try rw [← bv.out] at Y)
        obtain rfl : (⟨D, 0, none⟩ : Addr) = bw := (by injection bV)
        (first | simp only [Zco] at Y | simp only [add_at] at Y | simp only [Addr.add, Nat.zero_add] at Y | skip)
        replace aC := eq_true aC
        replace aD := eq_true aD
        have bX : 0 ≤ ((rd (Zae c a) m) : Int) := ofD
        have bY : (rd (Zae c a) m) < (B.length : Int) := ofD
        obtain ⟨dZ, eD, az⟩ := yF (zE u.out).2.2 (rd (Zae c a) m) bX bY
        (try rw [← bv.out] at az)
        obtain rfl : (⟨D, 0, none⟩ : Addr) = dZ := (by injection eD)
        (first | simp only [Zco] at az | simp only [add_at] at az | simp only [Addr.add, Nat.zero_add] at az | skip)
        replace bX := eq_true bX
        replace bY := eq_true bY
        go_wp2
        go_meet
        case rel => exact ⟨_, (!(rdOf false B (rd (Zae c a) m))), (eW), H', ⟨by have := W.out; have := T.out; have := ae.out; first | omega | exact Nat.le_refl _⟩, ⟨by (try simp only [l]); (try simp only [d]); (try simp only [s]); exact rP u.out⟩, ⟨by (try simp only [l]); (try simp only [d]); (try simp only [s]); exact rP q.out⟩, ⟨by (try simp only [l]); (try simp only [d]); (try simp only [s]); exact bP b.out⟩, ⟨bW⟩⟩
       case rest =>
        clear bU aR dR cp cq ab au av
        obtain ⟨kq, aI, rfl, HA, ah, u, q, b, HB⟩ := hcut
        cases kq with
        | zero => exact absurd HA.out (by simp [Zak.j3])
        | succ aN =>
         have H := HA.out
         clear HA
         simp only [Zak.j3] at H
         by_cases cy : aI = true; rotate_left
         ·replace cy := Bool.eq_false_iff.mpr cy
          subst cy
          rw [iF] at H
          by_cases cz : 0 ≤ (rd (Zae c a) m); rotate_left
          ·rw [if_neg cz] at H
           exact absurd H (by simp)
          rw [if_pos cz] at H
          have fe := dT cz
          clear cz
          by_cases cA : (rd (Zae c a) m) < (z.length : Int); rotate_left
          ·rw [if_neg cA] at H
           exact absurd H (by simp)
          rw [if_pos cA] at H
          have d0 := dT cA
          (try (have d1 := d0; simp only [l, d, s] at d1))
          clear cA
          obtain ⟨eE, bx⟩ : ∃ b_ : Bool, b_ = (rdOf false z (rd (Zae c a) m)) := ⟨_, rfl⟩
          rw [← bx] at H
          have aJ := mA bx
          clear bx
          by_cases cB : eE = true; rotate_left
          ·replace cB := Bool.eq_false_iff.mpr cB
           subst cB
           rw [iF] at H
           have H' := mA H
           clear H
           obtain ⟨fm, fn, eF⟩ := zJ q.out
           subst eF
           have al : 0 ≤ ((rd (Zae c a) m) : Int) := ofD
           have am : (rd (Zae c a) m) < (z.length : Int) := ofD
           obtain ⟨aS, a0, ac⟩ := yF (zE q.out).2.2 (rd (Zae c a) m) al am
           (try rw [← aJ.out] at ac)
           cases a0
           replace al := eq_true al
           replace am := eq_true am
           go_wp2
           (try simp only [← s])
           go_roundg aN
           case measure => have := W.out; have := T.out; have := ae.out; have := ah.out; omega
           case rel => exact ⟨(B), (z), (ar), (wrap64 (m + 1)), (eW), (eW), H', ⟨by have := W.out; have := T.out; have := ae.out; have := ah.out; omega⟩, ⟨by (try simp only [l]); (try simp only [d]); (try simp only [s]); exact rP u.out⟩, ⟨by (try simp only [l]); (try simp only [d]); (try simp only [s]); exact rP q.out⟩, ⟨by (try simp only [l]); (try simp only [d]); (try simp only [s]); exact bP b.out⟩, ⟨bW⟩⟩
          subst cB
          rw [if_pos rfl] at H
          by_cases cC : 0 ≤ a; rotate_left
          ·rw [if_neg cC] at H
           exact absurd H (by simp)
          rw [if_pos cC] at H
          have ff := dT cC
          clear cC
          by_cases cD : a < (z.length : Int); rotate_left
          ·rw [if_neg cD] at H
           exact absurd H (by simp)
          rw [if_pos cD] at H
          have d2 := dT cD
          (try (have d3 := d2; simp only [l, d, s] at d3))
          clear cD
          obtain ⟨eG, bz⟩ : ∃ b_ : Bool, b_ = (rdOf false z a) := ⟨_, rfl⟩
          rw [← bz] at H
          have aT := mA bz
          clear bz
          by_cases cE : eG = true
          ·subst cE
           rw [if_pos rfl] at H
           have H' := mA H
           clear H
           obtain ⟨fo, fp, eH⟩ := zJ q.out
           subst eH
           have al : 0 ≤ ((rd (Zae c a) m) : Int) := ofD
           have am : (rd (Zae c a) m) < (z.length : Int) := ofD
           obtain ⟨aS, a0, ac⟩ := yF (zE q.out).2.2 (rd (Zae c a) m) al am
           (try rw [← aJ.out] at ac)
           (try rw [← aT.out] at ac)
           cases a0
           replace al := eq_true al
           replace am := eq_true am
           have aE : 0 ≤ (a : Int) := ofD
           have aF : a < (z.length : Int) := ofD
           obtain ⟨bA, bZ, ai⟩ := yF (zE q.out).2.2 a aE aF
           (try rw [← aJ.out] at ai)
           (try rw [← aT.out] at ai)
           obtain rfl : aS = bA := (by injection bZ)
           replace aE := eq_true aE
           replace aF := eq_true aF
           go_wp2
           (try simp only [← s])
           go_roundg aN
           case measure => have := W.out; have := T.out; have := ae.out; have := ah.out; omega
           case rel => exact ⟨(B), (z), (ar), (wrap64 (m + 1)), (eW), (eW), H', ⟨by have := W.out; have := T.out; have := ae.out; have := ah.out; omega⟩, ⟨by (try simp only [l]); (try simp only [d]); (try simp only [s]); exact rP u.out⟩, ⟨by (try simp only [l]); (try simp only [d]); (try simp only [s]); exact rP q.out⟩, ⟨by (try simp only [l]); (try simp only [d]); (try simp only [s]); exact bP b.out⟩, ⟨bW⟩⟩
          replace cE := Bool.eq_false_iff.mpr cE
          subst cE
          rw [iF] at H
          obtain ⟨dm, bB⟩ : ∃ y_ : List Bool, y_ = (z.set (a : Int).toNat true) := ⟨_, rfl⟩
          rw [← bB] at H
          have d4 := mA bB
          clear bB
          have H' := mA H
          clear H
          obtain ⟨fq, b0, eI⟩ := zJ q.out
          subst eI
          have al : 0 ≤ ((rd (Zae c a) m) : Int) := ofD
          have am : (rd (Zae c a) m) < (z.length : Int) := ofD
          obtain ⟨aS, a0, ac⟩ := yF (zE q.out).2.2 (rd (Zae c a) m) al am
          (try rw [← aJ.out] at ac)
          (try rw [← aT.out] at ac)
          cases a0
          replace al := eq_true al
          replace am := eq_true am
          have aE : 0 ≤ (a : Int) := ofD
          have aF : a < (z.length : Int) := ofD
          obtain ⟨bA, bZ, ai⟩ := yF (zE q.out).2.2 a aE aF
          (try rw [← aJ.out] at ai)
          (try rw [← aT.out] at ai)
          obtain rfl : aS = bA := (by injection bZ)
          replace aE := eq_true aE
          replace aF := eq_true aF
          have dn : 0 ≤ (a : Int) := ofD
          have dp : (a : Int) < ((z.length : Int) : Int) := ofD
          obtain ⟨a1, fr, dq, dr, eJ, fs, dt⟩ := yV q.out (by omega)
          (first | cases dq | (injection dq with ea_ en_ ec_; (first | subst ea_ | (injection ea_ with ea_; subst ea_)); subst ec_; clear en_))
          have eK := mA dr
          have ft := mA dt
          clear dr eJ dt
          (first | simp only [Zco] at ac | skip)
          (first | simp only [Zco] at ai | skip)
          obtain ⟨e2, e3⟩ := yH false q.out (a : Int) dn dp
          replace dn := eq_true dn
          replace dp := eq_true dp
          have b1 := yN q.out (a : Int) true
          go_wp2_with (first | ((with_reducible refine Zbp (t := 4) (p := 66) rfl ?_); refine Zdi (t := 4) (p := 66) (w1 := (wc.setCell ⟨a1, (a : Int).toNat, none⟩ (.bool true))) ?_; intro du hw; have hg : wc.grownBy du (some a1) := (by rw [hw]; exact b1.2); have hp_ : Kd.R Kd.bool 4 du w.heap.size (fun k_ => some k_ ≠ (.slice (some ⟨D, 0, none⟩) B.length O : Value).ownBlock) (.slice (some ⟨a1, 0, none⟩) z.length b0) dm := (by rw [hw, d4.out]; exact b1.1); clear b1; replace u := mA (zU (v := (.slice (some ⟨a1, 0, none⟩) z.length b0)) (v1 := (.slice (some ⟨a1, 0, none⟩) z.length b0)) (ok := (fun _ => True)) (by (with_reducible repeat (first | apply zC | apply zD | apply zA)); exact zB u.out (fun _ hk => ⟨trivial, hk⟩)) hg (.inl rfl)); replace b := mA (Zaq (g := x) (o := .cells #[.int .i64 G, .int .i64 A, .slice I E.length J, .slice (some aq) c.length M] 48 (0, 0)) (bP b.out) hg (zO q.out b.out (by decide))); replace q := mA (hp_); replace HB := mA ((by rw [hw]; exact Zbs (HB.out) eK.out : Below w.heap.size w du)); clear hg hw hp_))
          (try simp only [← s])
          go_roundg aN
          case measure => have := W.out; have := T.out; have := ae.out; have := ah.out; omega
          case rel => exact ⟨(B), (dm), (true), (wrap64 (m + 1)), (eW), (eW), H', ⟨by have := W.out; have := T.out; have := ae.out; have := ah.out; omega⟩, ⟨by (try simp only [l]); (try simp only [d]); (try simp only [s]); (with_reducible repeat (first | apply zC | apply zD | apply zA)); exact zB u.out (fun _ hk => hk.2)⟩, ⟨by (try simp only [l]); (try simp only [d]); (try simp only [s]); exact rP q.out⟩, ⟨by (try simp only [l]); (try simp only [d]); (try simp only [s]); exact bP b.out⟩, ⟨bW⟩⟩
         subst cy
         rw [if_pos rfl] at H
         by_cases cF : 0 ≤ (rd (Zae c a) m); rotate_left
         ·rw [if_neg cF] at H
          exact absurd H (by simp)
         rw [if_pos cF] at H
         have fg := dT cF
         clear cF
         by_cases cG : (rd (Zae c a) m) < (B.length : Int); rotate_left
         ·rw [if_neg cG] at H
          exact absurd H (by simp)
         rw [if_pos cG] at H
         have d5 := dT cG
         (try (have d6 := d5; simp only [l, d, s] at d6))
         clear cG
         obtain ⟨aO, bC⟩ : ∃ y_ : List Bool, y_ = (B.set ((rd (Zae c a) m) : Int).toNat true) := ⟨_, rfl⟩
         replace H := bsm bC H
         have bD := mA bC
         clear bC
         by_cases cH : (rd (Zae c a) m) < (z.length : Int); rotate_left
         ·rw [if_neg cH] at H
          exact absurd H (by simp)
         rw [if_pos cH] at H
         have d7 := dT cH
         (try (have d8 := d7; simp only [l, d, s] at d8))
         clear cH
         obtain ⟨eL, bF⟩ : ∃ b_ : Bool, b_ = (rdOf false z (rd (Zae c a) m)) := ⟨_, rfl⟩
         rw [← bF] at H
         have aK := mA bF
         clear bF
         by_cases cI : eL = true; rotate_left
         ·replace cI := Bool.eq_false_iff.mpr cI
          subst cI
          rw [iF] at H
          have H' := mA H
          clear H
          have aw : 0 ≤ ((rd (Zae c a) m) : Int) := ofD
          have ax : ((rd (Zae c a) m) : Int) < ((B.length : Int) : Int) := ofD
          obtain ⟨bJ, bK⟩ := yH false u.out ((rd (Zae c a) m) : Int) aw ax
          replace aw := eq_true aw
          replace ax := eq_true ax
          have b2 := yN u.out ((rd (Zae c a) m) : Int) true
          go_wp2_with (first | ((with_reducible refine Zbp (t := 4) (p := 52) rfl ?_); refine Zdq (t := 4) (p := 52) (v := ?vo_w54) (w1 := (wc.setCell ⟨D, ((rd (Zae c a) m) : Int).toNat, none⟩ (.bool true))) ?hg ?ho ?hn ?hr ?_; (case ho => rfl); (case hg => rfl); (case hn => rfl); (case hr => first | (go_simp; done) | (go_simp; rfl)); intro dv hw; have hg : wc.grownBy dv (some D) := (by rw [hw]; exact b2.2); have hp_ : Kd.R Kd.bool 4 dv w.heap.size (fun k_ => some k_ ≠ (P : Value).ownBlock) (.slice (some ⟨D, 0, none⟩) B.length O) aO := (by rw [hw, bD.out]; exact b2.1); clear b2; replace q := mA (zU (v := (.slice (some ⟨D, 0, none⟩) B.length O)) (v1 := (.slice (some ⟨D, 0, none⟩) B.length O)) (ok := (fun _ => True)) (by (with_reducible repeat (first | apply zC | apply zD | apply zA)); exact zB q.out (fun _ hk => ⟨trivial, hk⟩)) hg (.inl rfl)); replace b := mA (Zaq (g := x) (o := .cells #[.int .i64 G, .int .i64 A, .slice I E.length J, .slice (some aq) c.length M] 48 (0, 0)) (bP b.out) hg (zO u.out b.out (by decide))); replace u := mA (hp_); replace HB := mA ((by rw [hw]; exact Zbs (HB.out) a5.out : Below w.heap.size w dv)); clear hg hw hp_; obtain ⟨fu, fv, eM⟩ := zJ q.out; subst eM; have an : 0 ≤ ((rd (Zae c a) m) : Int) := ofD; have ao : (rd (Zae c a) m) < (z.length : Int) := ofD; obtain ⟨aU, a2, ad⟩ := yF (zE q.out).2.2 (rd (Zae c a) m) an ao; (try rw [← aK.out] at ad); cases a2; replace an := eq_true an; replace ao := eq_true ao))
          (try simp only [← s])
          go_roundg aN
          case measure => have := W.out; have := T.out; have := ae.out; have := ah.out; omega
          case rel => exact ⟨(aO), (z), (true), (wrap64 (m + 1)), (eW), (eW), H', ⟨by have := W.out; have := T.out; have := ae.out; have := ah.out; omega⟩, ⟨by (try simp only [l]); (try simp only [d]); (try simp only [s]); exact rP u.out⟩, ⟨by (try simp only [l]); (try simp only [d]); (try simp only [s]); (with_reducible repeat (first | apply zC | apply zD | apply zA)); exact zB q.out (fun _ hk => hk.2)⟩, ⟨by (try simp only [l]); (try simp only [d]); (try simp only [s]); exact bP b.out⟩, ⟨bW⟩⟩
         subst cI
         rw [if_pos rfl] at H
         by_cases cJ : 0 ≤ a; rotate_left
         ·rw [if_neg cJ] at H
          exact absurd H (by simp)
         rw [if_pos cJ] at H
         have fh := dT cJ
         clear cJ
         by_cases cK : a < (z.length : Int); rotate_left
         ·rw [if_neg cK] at H
          exact absurd H (by simp)
         rw [if_pos cK] at H
         have d9 := dT cK
         (try (have ea := d9; simp only [l, d, s] at ea))
         clear cK
         obtain ⟨eN, bG⟩ : ∃ b_ : Bool, b_ = (rdOf false z a) := ⟨_, rfl⟩
         rw [← bG] at H
         have aV := mA bG
         clear bG
         by_cases cL : eN = true
         ·subst cL
          rw [if_pos rfl] at H
          have H' := mA H
          clear H
          have aw : 0 ≤ ((rd (Zae c a) m) : Int) := ofD
          have ax : ((rd (Zae c a) m) : Int) < ((B.length : Int) : Int) := ofD
          obtain ⟨bJ, bK⟩ := yH false u.out ((rd (Zae c a) m) : Int) aw ax
          replace aw := eq_true aw
          replace ax := eq_true ax
          have b3 := yN u.out ((rd (Zae c a) m) : Int) true
          go_wp2_with (first | ((with_reducible refine Zbp (t := 4) (p := 52) rfl ?_); refine Zdq (t := 4) (p := 52) (v := ?vo_w45) (w1 := (wc.setCell ⟨D, ((rd (Zae c a) m) : Int).toNat, none⟩ (.bool true))) ?hg ?ho ?hn ?hr ?_; (case ho => rfl); (case hg => rfl); (case hn => rfl); (case hr => first | (go_simp; done) | (go_simp; rfl)); intro dw hw; have hg : wc.grownBy dw (some D) := (by rw [hw]; exact b3.2); have hp_ : Kd.R Kd.bool 4 dw w.heap.size (fun k_ => some k_ ≠ (P : Value).ownBlock) (.slice (some ⟨D, 0, none⟩) B.length O) aO := (by rw [hw, bD.out]; exact b3.1); clear b3; replace q := mA (zU (v := (.slice (some ⟨D, 0, none⟩) B.length O)) (v1 := (.slice (some ⟨D, 0, none⟩) B.length O)) (ok := (fun _ => True)) (by (with_reducible repeat (first | apply zC | apply zD | apply zA)); exact zB q.out (fun _ hk => ⟨trivial, hk⟩)) hg (.inl rfl)); replace b := mA (Zaq (g := x) (o := .cells #[.int .i64 G, .int .i64 A, .slice I E.length J, .slice (some aq) c.length M] 48 (0, 0)) (bP b.out) hg (zO u.out b.out (by decide))); replace u := mA (hp_); replace HB := mA ((by rw [hw]; exact Zbs (HB.out) a5.out : Below w.heap.size w dw)); clear hg hw hp_; obtain ⟨fw, fx, eO⟩ := zJ q.out; subst eO; have an : 0 ≤ ((rd (Zae c a) m) : Int) := ofD; have ao : (rd (Zae c a) m) < (z.length : Int) := ofD; obtain ⟨aU, a2, ad⟩ := yF (zE q.out).2.2 (rd (Zae c a) m) an ao; (try rw [← aK.out] at ad); (try rw [← aV.out] at ad); cases a2; replace an := eq_true an; replace ao := eq_true ao; have aG : 0 ≤ (a : Int) := ofD; have aH : a < (z.length : Int) := ofD; obtain ⟨bH, b4, aj⟩ := yF (zE q.out).2.2 a aG aH; (try rw [← aK.out] at aj); (try rw [← aV.out] at aj); obtain rfl : aU = bH := (by injection b4); replace aG := eq_true aG; replace aH := eq_true aH))
          (try simp only [← s])
          go_roundg aN
          case measure => have := W.out; have := T.out; have := ae.out; have := ah.out; omega
          case rel => exact ⟨(aO), (z), (true), (wrap64 (m + 1)), (eW), (eW), H', ⟨by have := W.out; have := T.out; have := ae.out; have := ah.out; omega⟩, ⟨by (try simp only [l]); (try simp only [d]); (try simp only [s]); exact rP u.out⟩, ⟨by (try simp only [l]); (try simp only [d]); (try simp only [s]); (with_reducible repeat (first | apply zC | apply zD | apply zA)); exact zB q.out (fun _ hk => hk.2)⟩, ⟨by (try simp only [l]); (try simp only [d]); (try simp only [s]); exact bP b.out⟩, ⟨bW⟩⟩
         replace cL := Bool.eq_false_iff.mpr cL
         subst cL
         rw [iF] at H
         obtain ⟨dx, bI⟩ : ∃ y_ : List Bool, y_ = (z.set (a : Int).toNat true) := ⟨_, rfl⟩
         rw [← bI] at H
         have eb := mA bI
         clear bI
         have H' := mA H
         clear H
         have aw : 0 ≤ ((rd (Zae c a) m) : Int) := ofD
         have ax : ((rd (Zae c a) m) : Int) < ((B.length : Int) : Int) := ofD
         obtain ⟨bJ, bK⟩ := yH false u.out ((rd (Zae c a) m) : Int) aw ax
         replace aw := eq_true aw
         replace ax := eq_true ax
         have b5 := yN u.out ((rd (Zae c a) m) : Int) true
         go_wp2_with (first | ((with_reducible refine Zbp (t := 4) (p := 52) rfl ?_); refine Zdq (t := 4) (p := 52) (v := ?vo_w49) (w1 := (wc.setCell ⟨D, ((rd (Zae c a) m) : Int).toNat, none⟩ (.bool true))) ?hg ?ho ?hn ?hr ?_; (case ho => rfl); (case hg => rfl); (case hn => rfl); (case hr => first | (go_simp; done) | (go_simp; rfl)); intro bL hw; have hg : wc.grownBy bL (some D) := (by rw [hw]; exact b5.2); have hp_ : Kd.R Kd.bool 4 bL w.heap.size (fun k_ => some k_ ≠ (P : Value).ownBlock) (.slice (some ⟨D, 0, none⟩) B.length O) aO := (by rw [hw, bD.out]; exact b5.1); clear b5; replace q := mA (zU (v := (.slice (some ⟨D, 0, none⟩) B.length O)) (v1 := (.slice (some ⟨D, 0, none⟩) B.length O)) (ok := (fun _ => True)) (by (with_reducible repeat (first | apply zC | apply zD | apply zA)); exact zB q.out (fun _ hk => ⟨trivial, hk⟩)) hg (.inl rfl)); replace b := mA (Zaq (g := x) (o := .cells #[.int .i64 G, .int .i64 A, .slice I E.length J, .slice (some aq) c.length M] 48 (0, 0)) (bP b.out) hg (zO u.out b.out (by decide))); replace u := mA (hp_); replace HB := mA ((by rw [hw]; exact Zbs (HB.out) a5.out : Below w.heap.size w bL)); clear hg hw hp_; obtain ⟨fy, b6, eP⟩ := zJ q.out; subst eP; have an : 0 ≤ ((rd (Zae c a) m) : Int) := ofD; have ao : (rd (Zae c a) m) < (z.length : Int) := ofD; obtain ⟨aU, a2, ad⟩ := yF (zE q.out).2.2 (rd (Zae c a) m) an ao; (try rw [← aK.out] at ad); (try rw [← aV.out] at ad); cases a2; replace an := eq_true an; replace ao := eq_true ao; have aG : 0 ≤ (a : Int) := ofD; have aH : a < (z.length : Int) := ofD; obtain ⟨bH, b4, aj⟩ := yF (zE q.out).2.2 a aG aH; (try rw [← aK.out] at aj); (try rw [← aV.out] at aj); obtain rfl : aU = bH := (by injection b4); replace aG := eq_true aG; replace aH := eq_true aH; have dy : 0 ≤ (a : Int) := ofD; have dz : (a : Int) < ((z.length : Int) : Int) := ofD; obtain ⟨a3, fz, dA, dB, eQ, fA, dC⟩ := yV q.out (by omega); (first | cases dA | (injection dA with ea_ en_ ec_; (first | subst ea_ | (injection ea_ with ea_; subst ea_)); subst ec_; clear en_)); have eR := mA dB; have fB := mA dC; clear dB eQ dC; (first | simp only [Zco] at ad | skip); (first | simp only [Zco] at aj | skip); obtain ⟨e4, e5⟩ := yH false q.out (a : Int) dy dz; replace dy := eq_true dy; replace dz := eq_true dz; have n_ := mA (zB (ok' := (fun k_ => some k_ ≠ (.slice (some ⟨D, 0, none⟩) B.length O : Value).ownBlock)) q.out (fun k_ hk => hk.2)); clear q; have q := n_; clear n_; obtain ⟨fi, fj⟩ := yH false q.out (a : Int) (ofD) (ofD); have b7 := yN q.out (a : Int) true) | ((with_reducible refine Zbp (t := 4) (p := 66) rfl ?_); refine Zdi (t := 4) (p := 66) (w1 := (bL.setCell ⟨a3, (a : Int).toNat, none⟩ (.bool true))) ?_; intro dD hw; have hg : bL.grownBy dD (some a3) := (by rw [hw]; exact b7.2); have hp_ : Kd.R Kd.bool 4 dD w.heap.size (fun k_ => some k_ ≠ (.slice (some ⟨D, 0, none⟩) B.length O : Value).ownBlock) (.slice (some ⟨a3, 0, none⟩) z.length b6) dx := (by rw [hw, eb.out]; exact b7.1); clear b7; replace u := mA (zU (v := (.slice (some ⟨a3, 0, none⟩) z.length b6)) (v1 := (.slice (some ⟨a3, 0, none⟩) z.length b6)) (ok := (fun _ => True)) (by (with_reducible repeat (first | apply zC | apply zD | apply zA)); exact zB u.out (fun _ hk => ⟨trivial, hk⟩)) hg (.inl rfl)); replace b := mA (Zaq (g := x) (o := .cells #[.int .i64 G, .int .i64 A, .slice I E.length J, .slice (some aq) c.length M] 48 (0, 0)) (bP b.out) hg (zO q.out b.out (by decide))); replace q := mA (hp_); replace HB := mA ((by rw [hw]; exact Zbs (HB.out) eR.out : Below w.heap.size w dD)); clear hg hw hp_))
         (try simp only [← s])
         go_roundg aN
         case measure => have := W.out; have := T.out; have := ae.out; have := ah.out; omega
         case rel => exact ⟨(aO), (dx), (true), (wrap64 (m + 1)), (eW), (eW), H', ⟨by have := W.out; have := T.out; have := ae.out; have := ah.out; omega⟩, ⟨by (try simp only [l]); (try simp only [d]); (try simp only [s]); (with_reducible repeat (first | apply zC | apply zD | apply zA)); exact zB u.out (fun _ hk => hk.2)⟩, ⟨by (try simp only [l]); (try simp only [d]); (try simp only [s]); exact rP q.out⟩, ⟨by (try simp only [l]); (try simp only [d]); (try simp only [s]); exact bP b.out⟩, ⟨bW⟩⟩
end Go.Proofs.YtgindgodfcfgkaaDoor.P
end M0
