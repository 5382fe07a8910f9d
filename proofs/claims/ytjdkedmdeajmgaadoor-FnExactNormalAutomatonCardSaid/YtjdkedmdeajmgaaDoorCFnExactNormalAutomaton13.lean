import Derived.Test.YtjdkedmdeajmgaaDoorCFnExactNormalAutomaton12
section M0
namespace Go.Proofs.YtjdkedmdeajmgaaDoor.P
open Go.RowKit Go.Proofs.YtjdkedmdeajmgaaDoor.Sh Go.Proofs.YtjdkedmdeajmgaaDoorW.PrintWords Go.Proofs.YtjdkedmdeajmgaaDoorW.PrintLast Go.Proofs.YtjdkedmdeajmgaaDoorW.PrintMore
open Kd
attribute [local go_sem] Zcf Zch Zcv Zcu Zb6 Zb7 Zcg Zce   -- for this text's walks alone
set_option linter.unusedVariables false
set_option linter.unusedSimpArgs false
mutual
def Zai.l0 : Nat → List Bool → List Bool → Bool → Int → Int → List Bool → List (List Int) → Option (List Bool)
 | 0, _, _, _, _, _, _, _ => none
 | k + 1, x3, x4, x5, b, c, d, a => if x5 = true then (Zai.l1 k x3 x4 false a (a.length : Int) 0 b c d a) else (Zai.l3 k x3 x4 (x3.length : Int) 0)
def Zai.l1 : Nat → List Bool → List Bool → Bool → List (List Int) → Int → Int → Int → Int → List Bool → List (List Int) → Option (List Bool)
 | 0, _, _, _, _, _, _, _, _, _, _ => none
 | k + 1, x3, x4, x5, g, h, a, b, c, d, e => if a < h then (if 0 ≤ a then (if a < (g.length : Int) then (Zai.l2 k x3 x4 x5 a g h a (Zam g a) ((Zam g a).length : Int) 0 b c d e) else (none)) else (none)) else (Zai.l0 k x3 x4 x5 b c d e)
def Zai.l2 : Nat → List Bool → List Bool → Bool → Int → List (List Int) → Int → Int → List Int → Int → Int → Int → Int → List Bool → List (List Int) → Option (List Bool)
 | 0, _, _, _, _, _, _, _, _, _, _, _, _, _, _ => none
 | k + 1, x3, x4, x5, x6, h, i, j, g, l, a, b, c, d, e => if a < l then (if 0 ≤ a then (if a < (g.length : Int) then (if (rd g a) < 0 then (Zai.l2 k x3 x4 x5 x6 h i j g l (wrap64 (a + 1)) b c d e) else (if 0 ≤ x6 then (if x6 < (x3.length : Int) then (if rdOf false x3 x6 = true then (if 0 ≤ (rd g a) then (if (rd g a) < (x3.length : Int) then (Zai.j3 k x3 x4 x5 x6 (rd g a) h i j g l a (!(rdOf false x3 (rd g a))) b c d e) else (none)) else (none)) else (Zai.j3 k x3 x4 x5 x6 (rd g a) h i j g l a false b c d e)) else (none)) else (none))) else (none)) else (none)) else (Zai.l1 k x3 x4 x5 h i (wrap64 (j + 1)) b c d e)
def Zai.j3 : Nat → List Bool → List Bool → Bool → Int → Int → List (List Int) → Int → Int → List Int → Int → Int → Bool → Int → Int → List Bool → List (List Int) → Option (List Bool)
 | 0, _, _, _, _, _, _, _, _, _, _, _, _, _, _, _, _ => none
 | k + 1, x3, x4, x5, x6, x9, e, g, h, i, j, l, n, a, b, c, d => if n = true then (if 0 ≤ x9 then (if x9 < (x3.length : Int) then ((some (x3.set (x9 : Int).toNat true : List Bool)).bind fun m => (if x9 < (x4.length : Int) then (if rdOf false x4 x9 = true then (if 0 ≤ x6 then (if x6 < (x4.length : Int) then (if rdOf false x4 x6 = true then (Zai.l2 k m x4 true x6 e g h i j (wrap64 (l + 1)) a b c d) else (Zai.l2 k m (x4.set (x6 : Int).toNat true) true x6 e g h i j (wrap64 (l + 1)) a b c d)) else (none)) else (none)) else (Zai.l2 k m x4 true x6 e g h i j (wrap64 (l + 1)) a b c d)) else (none))) else (none)) else (none)) else (if 0 ≤ x9 then (if x9 < (x4.length : Int) then (if rdOf false x4 x9 = true then (if 0 ≤ x6 then (if x6 < (x4.length : Int) then (if rdOf false x4 x6 = true then (Zai.l2 k x3 x4 x5 x6 e g h i j (wrap64 (l + 1)) a b c d) else (Zai.l2 k x3 (x4.set (x6 : Int).toNat true) true x6 e g h i j (wrap64 (l + 1)) a b c d)) else (none)) else (none)) else (Zai.l2 k x3 x4 x5 x6 e g h i j (wrap64 (l + 1)) a b c d)) else (none)) else (none))
def Zai.l3 : Nat → List Bool → List Bool → Int → Int → Option (List Bool)
 | 0, _, _, _, _ => none
 | k + 1, x3, x4, b, a => if a < b then (if 0 ≤ a then (if a < (x3.length : Int) then (if rdOf false x3 a = true then (if a < (x4.length : Int) then (Zai.l3 k (x3.set (a : Int).toNat (rdOf false x4 a)) x4 b (wrap64 (a + 1))) else (none)) else (Zai.l3 k (x3.set (a : Int).toNat false) x4 b (wrap64 (a + 1)))) else (none)) else (none)) else (some x3)
end
def Zai.f (k : Nat) (e : Int) (a : Int) (c : List Bool) (b : List (List Int)) : Option (List Bool) := if 0 ≤ (b.length : Int) then (if ((b.length : Int) : Int).toNat ≤ 281474976710656 then ((some (List.replicate ((b.length : Int) : Int).toNat false : List Bool)).bind fun d => ((Zb9.f c).bind fun g => (if 0 ≤ a then (if a < (d.length : Int) then (Zai.l0 k (d.set (a : Int).toNat true) g true e a c b) else (none)) else (none)))) else (none)) else (none)
def Zai.T1 : Bool × List (List Nat × List Nat) := (true, [([], []), ([0], [0]), ([1], [1]), ([2, 2], [2]), ([], []), ([4], [4]), ([5], [5]), ([3, 6, 0, 1, 2, 3], [3]), ([6, 7, 0, 1, 2, 3, 4, 5, 6, 7], [6])])
def Zai.B1 : List Nat := [0, 1, 3, 7, 0, 16, 48, 127, 255]
theorem Zai.tab1 : rtab .any (opsOf Tryd.f52 1) = Zai.T1 := by kernel_rfl
theorem Zai.bits1 : Zcb Zai.T1.2 Zai.B1 = true := by kernel_rfl
set_option maxHeartbeats 8000000 in
set_option maxRecDepth 100000 in
theorem Zai.calls (k : Nat) (G : Int) (B : Int) (I : Option Addr) (J : Nat) (D : List Bool) (aa : Option Addr) (M : Nat) (c : List (List Int)) (r : List Bool) (w : World) (bX : Kd.C Kd.bool w I D.length D) (bY : D.length ≤ J) (bZ : Kd.C (Kd.slice 2 (Kd.int .i64)) w aa c.length c) (b0 : c.length ≤ M) (h : Zai.f k G B D c = some r) :
  Calls Tryd.prog 52 #[.agg #[.int .i64 G, .int .i64 B, .slice I D.length J, .slice aa c.length M]] w fun e w' => ∃ dG : Value, e = .returned (dG) ∧ Kd.R Kd.bool 4 w' w.heap.size (fun _ => True) dG r ∧ Below w.heap.size w w' := by
 have eN := Tryd.underlying77
 have b1 := mA bX
 have b2 := mA bY
 clear bX bY
 have dc := mA bZ
 have ez := mA b0
 clear bZ b0
 have HB := mA (Below.refl w.heap.size w)
 unfold Zai.f at h
 have H := h
 clear h
 by_cases c2 : 0 ≤ (c.length : Int); rotate_left
 ·rw [if_neg c2] at H
  exact absurd H (by simp)
 rw [if_pos c2] at H
 have dS := eq_true c2
 have dU := dT c2
 clear c2
 by_cases c3 : ((c.length : Int) : Int).toNat ≤ 281474976710656; rotate_left
 ·rw [if_neg c3] at H
  exact absurd H (by simp)
 rw [if_pos c3] at H
 have dV := eq_true c3
 have dW := dT c3
 clear c3
 obtain ⟨ap, bh⟩ : ∃ y_ : List Bool, y_ = (List.replicate ((c.length : Int) : Int).toNat false) := ⟨_, rfl⟩
 replace H := bsm bh H
 have aR := mA bh
 clear bh
 obtain ⟨aY, A4, H⟩ := bA H
 obtain ⟨dX, H⟩ := gE H
 obtain ⟨dY, H⟩ := gE H
 obtain ⟨cD, b3⟩ := nm ((ap.set (B : Int).toNat true) : List Bool)
 rw [← b3.out] at H
 have H' := mA H
 clear H
 go_enter Tryd.func52, Tryd.ntmps52
 try go_wp2_with (first | ((with_reducible refine Zat (N := 1) rfl ?_); refine boxS (N := 1) (cs := #[.int .i64 G, .int .i64 B, .slice I D.length J, .slice aa c.length M]) (t := 77) ?_; intro x hg w8 hbox hb; have a := mA (hbox); have eA := geW (w := w) hg; have eB := geW (w := w) hg; replace HB := mA (Zaf (bW) hb); clear hb hbox hg))
 replace a := mA (Zaa a.out)
 replace HB := mA (Za1 HB.out)
 refine Zck (n := 9) (S := fun w' => w'.cell? ⟨x, 0, none⟩ = some (.int .i64 G) ∧ w'.cell? ⟨x, 1, none⟩ = some (.int .i64 B) ∧ w'.cell? ⟨x, 2, none⟩ = some (.slice I D.length J) ∧ w'.cell? ⟨x, 3, none⟩ = some (.slice aa c.length M)) (ds := []) #[false, false, false, false, false, false, false, false, false] (by kernel_rfl) rfl rfl ⟨bc a 0, bc a 1, bc a 2, bc a 3⟩ (fun hHeld => ?_); refine Zb5 Zai.tab1 Zai.bits1 (fun HT_ HW_ => ?_)
 generalize w8.drew = w9 at a HB hHeld ⊢
 refine Zas (i := 0) (N := some 11) (Zap HT_.out (by kernel_rfl)) ?_
 refine Zas (i := 4) (N := some 15) (Zap HT_.out (by kernel_rfl)) ?_
 refine Zbg (i := 1) (N := some 12) (Za0 HT_.out HW_.out (by kernel_rfl)) hHeld ?_
 refine Zas (i := 2) (N := some 13) (Zap HT_.out (by kernel_rfl)) ?_
 refine Zbg (i := 5) (N := some 16) (Za0 HT_.out HW_.out (by kernel_rfl)) hHeld ?_
 refine join_ (σ := Value × Value) 2 #[true, true, true, true, true, true, true, false, false] (fun s_ => [(14, s_.1), (17, s_.2)]) (fun s_ w' => (w'.cell? ⟨x, 0, none⟩ = some (.int .i64 G) ∧ w'.cell? ⟨x, 1, none⟩ = some (.int .i64 B) ∧ w'.cell? ⟨x, 2, none⟩ = some (.slice I D.length J) ∧ w'.cell? ⟨x, 3, none⟩ = some (.slice aa c.length M)) ∧ (Kd.R Kd.bool 4 w' w.heap.size (fun k_ => some k_ ≠ (s_.2 : Value).ownBlock) s_.1 ap) ∧ (Kd.R Kd.bool 4 w' w.heap.size (fun k_ => some k_ ≠ (s_.1 : Value).ownBlock) s_.2 aY) ∧ (w'.heap[x]? = some (.cells #[.int .i64 G, .int .i64 B, .slice I D.length J, .slice aa c.length M] 77 (0, 0))) ∧ (Below w.heap.size w w')) ?_ ?_
 rotate_left
 ·intro hCont
  refine two_ (i := 3) (j := 6) (Ni := some 14) (Nj := some 17) #[true, true, true, true, true, true, false, false, false] #[true, true, true, false, true, true, true, false, false] rfl rfl rfl rfl (two_of HT_.out (by kernel_rfl)) (by decide) (by decide) (fun K hK => ?_) (fun K hK => ?_)
  ·skip
   refine xJ Kd.bool _ 4 (by rfl) (N := 14) rfl 64 _ _ rfl (c.length : Int) rfl rfl Tryd.underlying64 (.bool false) 1 info4 rfl (by decide) (by omega) false (ok := fun _ => True) (okp := fun _ => True) rfl (fun _ hk => hk) trivial (ofD) (Nat.le_trans (Nat.mul_le_mul_right _ (ofD : (c.length : Int).toNat ≤ 281474976710656)) (by omega)) (Below.refl _ _) (Nat.le_refl _) ?_
   intro aN el aZ hb hg_ hnew_
   clear hg_ hnew_
   (first | rw [← aR.out] at aZ | (simp only [Int.reduceToNat] at aZ; rw [← aR.out] at aZ))
   have U := mA (zS aZ (Zaj (bW)))
   replace a := mA (blkB a.out hb)
   replace HB := mA (Zaf (bW) hb)
   clear hb aZ
   refine hK.out _ _ ⟨bc a 0, bc a 1, bc a 2, bc a 3⟩ (fun hHeld => ?_)
   clear hK K
   refine putS 14 ?_
   refine one_ (i := 6) (N := some 17) #[true, true, true, true, true, true, true, false, false] rfl rfl (Zbe HT_.out (by kernel_rfl)) (by decide) (fun K hK => ?_)
   refine goes_ Tryd.func111 (by kernel_rfl) rfl #[.slice I D.length J] (by rfl) rfl rfl (by (try simp only [List.map_toArray, List.map_cons, List.map_nil]); first | done | rfl | (simp only [List.length_drop, List.length_take]; rfl)) ?_
   with_reducible refine (Zb9.calls _ _ D aY _ ?side1 ?side2 A4.out).mono ?_
   (case side1 => exact cP (zQ b1.out HB.out))
   (case side2 => exact b2.out)
   rintro e e6 ⟨P, rfl, a6, hb⟩
   refine ⟨_, rfl, ?_⟩
   have af := mA (zS (yC a6 (zI (rP U.out))) (Zaj (bW)))
   replace U := mA (zZ (rP U.out) (zU a6) hb)
   replace a := mA (blkB a.out hb)
   replace HB := mA (Zaf (bW) hb)
   (try clear hb)
   (try clear hb2)
   (try clear hk)
   (try clear hi)
   (try clear a6)
   refine hK.out _ _ ⟨bc a 0, bc a 1, bc a 2, bc a 3⟩ (fun hHeld => ?_)
   clear hK K
   refine putS 17 ?_
   exact norm_ (by simp only [Zcy, Act.put, List.setIfInBounds_toArray, List.set_cons_zero, List.set_cons_succ]) (hCont (aN, P) _ ⟨hHeld, (by (with_reducible repeat (first | apply zC | apply zD | apply zA)); exact zB U.out (fun _ hk => hk.2)), (by (with_reducible repeat (first | apply zC | apply zD | apply zA)); exact zB af.out (fun _ hk => hk.2)), (bP a.out), (bW)⟩)
  skip
  refine goes_ Tryd.func111 (by kernel_rfl) rfl #[.slice I D.length J] (by rfl) rfl rfl (by (try simp only [List.map_toArray, List.map_cons, List.map_nil]); first | done | rfl | (simp only [List.length_drop, List.length_take]; rfl)) ?_
  with_reducible refine (Zb9.calls _ _ D aY _ ?side1 ?side2 A4.out).mono ?_
  (case side1 => exact cP (zQ b1.out HB.out))
  (case side2 => exact b2.out)
  rintro e el ⟨P, rfl, a6, hb⟩
  refine ⟨_, rfl, ?_⟩
  have af := mA (zS a6 (Zaj (bW)))
  replace a := mA (blkB a.out hb)
  replace HB := mA (Zaf (bW) hb)
  (try clear hb)
  (try clear hb2)
  (try clear hk)
  (try clear hi)
  (try clear a6)
  refine hK.out _ _ ⟨bc a 0, bc a 1, bc a 2, bc a 3⟩ (fun hHeld => ?_)
  clear hK K
  refine putS 17 ?_
  refine one_ (i := 3) (N := some 14) #[true, true, true, true, true, true, true, false, false] rfl rfl (Zbe HT_.out (by kernel_rfl)) (by decide) (fun K hK => ?_)
  refine xJ Kd.bool _ 4 (by rfl) (N := 14) rfl 64 _ _ rfl (c.length : Int) rfl rfl Tryd.underlying64 (.bool false) 1 info4 rfl (by decide) (by omega) false (ok := fun _ => True) (okp := fun _ => True) rfl (fun _ hk => hk) trivial (ofD) (Nat.le_trans (Nat.mul_le_mul_right _ (ofD : (c.length : Int).toNat ≤ 281474976710656)) (by omega)) (Below.refl _ _) (Nat.le_refl _) ?_
  intro aN e7 aO hb hg_ hnew_
  clear hg_ hnew_
  (first | rw [← aR.out] at aO | (simp only [Int.reduceToNat] at aO; rw [← aR.out] at aO))
  have U := mA (zS (yC aO (zI (rP af.out))) (Zaj (bW)))
  replace af := mA (zZ (rP af.out) (zU aO) hb)
  replace a := mA (blkB a.out hb)
  replace HB := mA (Zaf (bW) hb)
  clear hb aO
  refine hK.out _ _ ⟨bc a 0, bc a 1, bc a 2, bc a 3⟩ (fun hHeld => ?_)
  clear hK K
  refine putS 14 ?_
  exact norm_ (by simp only [Zcy, Act.put, List.setIfInBounds_toArray, List.set_cons_zero, List.set_cons_succ]) (hCont (aN, P) _ ⟨hHeld, (by (with_reducible repeat (first | apply zC | apply zD | apply zA)); exact zB U.out (fun _ hk => hk.2)), (by (with_reducible repeat (first | apply zC | apply zD | apply zA)); exact zB af.out (fun _ hk => hk.2)), (bP a.out), (bW)⟩)
 rintro ⟨aN, P⟩ w13 ⟨hS_, dH, dI, dJ, dK⟩
 have dL : Zac (Kd.R Kd.bool 4 w13 w.heap.size (fun k_ => some k_ ≠ (P : Value).ownBlock) aN ap) := ⟨dH⟩
 have dM : Zac (Kd.R Kd.bool 4 w13 w.heap.size (fun k_ => some k_ ≠ (aN : Value).ownBlock) P aY) := ⟨dI⟩
 have dN : Zac (w13.heap[x]? = some (.cells #[.int .i64 G, .int .i64 B, .slice I D.length J, .slice aa c.length M] 77 (0, 0))) := ⟨dJ⟩
 have dO : Zac (Below w.heap.size w w13) := ⟨dK⟩
 clear a HB dH dI dJ dK; have U := dL; have af := dM; have a := dN; have HB := dO; clear dL dM dN dO
 have hHeld : w13.cell? ⟨x, 0, none⟩ = some (.int .i64 G) ∧ w13.cell? ⟨x, 1, none⟩ = some (.int .i64 B) ∧ w13.cell? ⟨x, 2, none⟩ = some (.slice I D.length J) ∧ w13.cell? ⟨x, 3, none⟩ = some (.slice aa c.length M) := hS_
 refine norm_ (a' := ?_) ?_ ?_
 rotate_left
 ·simp only [Zcy, Act.put, List.setIfInBounds_toArray, List.set_cons_zero, List.set_cons_succ]
  rfl
 refine Zas (i := 7) (N := some 3) (Zap HT_.out (by kernel_rfl)) ?_
 refine Zas (i := 8) (N := some 4) (Zap HT_.out (by kernel_rfl)) ?_
 refine done_ (Zcs HT_.out (by kernel_rfl)) ?_
 have ck : w13.cell? ⟨x, 0, none⟩ = some (.int .i64 G) := bc a 0
 have cm : w13.cell? ⟨x, 1, none⟩ = some (.int .i64 B) := bc a 1
 have cn : w13.cell? ⟨x, 2, none⟩ = some (.slice I D.length J) := bc a 2
 have co : w13.cell? ⟨x, 3, none⟩ = some (.slice aa c.length M) := bc a 3
 have cp := Zae a.out 0
 have cq := Zae a.out 1
 have cr := Zae a.out 2
 have ct := Zae a.out 3
 have p7 : 0 ≤ (B : Int) := ofD
 have q7 : (B : Int) < ((ap.length : Int) : Int) := ofD
 obtain ⟨z, O, dP, dQ, em, e8, dR⟩ := yK U.out (by omega)
 (first | cases dP | (injection dP with ea_ en_ ec_; (first | subst ea_ | (injection ea_ with ea_; subst ea_)); subst ec_; clear en_))
 have a7 := mA dQ
 have e9 := mA dR
 clear dQ em dR
 obtain ⟨dd, eC⟩ := yF false U.out (B : Int) p7 q7
 replace p7 := eq_true p7
 replace q7 := eq_true q7
 obtain ⟨eD, eE⟩ := yF false U.out (B : Int) (ofD) (ofD)
 have bB := yI U.out (B : Int) true
 try go_wp2_with (first | ((with_reducible refine Zbq (t := 4) (p := 21) rfl ?_); refine Zdg (t := 4) (p := 21) (w1 := (w13.setCell ⟨z, (B : Int).toNat, none⟩ (.bool true))) ?_; intro cE hw; have hg : w13.grownBy cE (some z) := (by rw [hw]; exact bB.2); have hp_ : Kd.R Kd.bool 4 cE w.heap.size (fun k_ => some k_ ≠ (P : Value).ownBlock) (.slice (some ⟨z, 0, none⟩) ap.length O) cD := (by rw [hw, b3.out]; exact bB.1); clear bB; replace a := mA (Zah (g := x) (o := .cells #[.int .i64 G, .int .i64 B, .slice I D.length J, .slice aa c.length M] 77 (0, 0)) (bP a.out) hg (zN U.out a.out (by decide))); replace U := mA (hp_); replace af := mA (zR (v := (.slice (some ⟨z, 0, none⟩) ap.length O)) (v1 := (.slice (some ⟨z, 0, none⟩) ap.length O)) (ok := (fun _ => True)) (by (with_reducible repeat (first | apply zC | apply zD | apply zA)); exact zB af.out (fun _ hk => ⟨trivial, hk⟩)) hg (.inl rfl)); replace HB := mA ((by rw [hw]; exact Za9 (HB.out) a7.out : Below w.heap.size w cE)); clear hg hw hp_))
 go_loopg [5] k (fun kq v5 w' => ∃ (aj : List Bool) (ak : List Bool) (bi : Bool), v5 = .bool bi ∧ Zac (Zai.l0 kq aj ak bi G B D c = some r) ∧ Zac (kq ≤ k) ∧ Zac (Kd.R Kd.bool 4 w' w.heap.size (fun k_ => some k_ ≠ (P : Value).ownBlock) (.slice (some ⟨z, 0, none⟩) ap.length O) aj) ∧ Zac (Kd.R Kd.bool 4 w' w.heap.size (fun k_ => some k_ ≠ ((.slice (some ⟨z, 0, none⟩) ap.length O) : Value).ownBlock) P ak) ∧ Zac (w'.heap[x]? = some (.cells #[.int .i64 G, .int .i64 B, (.slice I D.length J), (.slice aa c.length M)] 77 (0, 0))) ∧ Zac (Below w.heap.size w w'))
 case atStart => exact ⟨(cD), (aY), (true), (eW), H', ⟨Nat.le_refl _⟩, ⟨rP U.out⟩, ⟨by (with_reducible repeat (first | apply zC | apply zD | apply zA)); exact zB af.out (fun _ hk => hk.2)⟩, ⟨bP a.out⟩, ⟨bW⟩⟩
 case round =>
  clear H' dS dU dV dW dX dY p7 q7 ck cm cn co cp cq cr ct dd
  obtain ⟨aj, ak, bi, rfl, HA, W, u, q, a, HB⟩ := hrel
  have l := (zJ u.out).1
  rw [l] at u
  (try simp only [l])
  (try simp only [l] at a)
  (try simp only [l] at q)
  cases gk with
  | zero => exact absurd HA.out (by simp [Zai.l0])
  | succ k1 =>
   have H := HA.out
   clear HA
   simp only [Zai.l0] at H
   by_cases b4 : bi = true; rotate_left
   ·replace b4 := Bool.eq_false_iff.mpr b4
    subst b4
    rw [iF] at H
    have H' := mA H
    clear H
    go_wp2
    go_loopg [71] k1 (fun kq v71 w' => ∃ (L : List Bool) (y : Int), v71 = .int .i64 y ∧ Zac (Zai.l3 kq L ak (aj.length : Int) y = some r) ∧ Zac (kq ≤ k1) ∧ Zac (Kd.R Kd.bool 4 w' w.heap.size (fun k_ => some k_ ≠ (P : Value).ownBlock) (.slice (some ⟨z, 0, none⟩) aj.length O) L) ∧ Zac (Kd.R Kd.bool 4 w' w.heap.size (fun k_ => some k_ ≠ ((.slice (some ⟨z, 0, none⟩) aj.length O) : Value).ownBlock) P ak) ∧ Zac (w'.heap[x]? = some (.cells #[.int .i64 G, .int .i64 B, (.slice I D.length J), (.slice aa c.length M)] 77 (0, 0))) ∧ Zac (Below w.heap.size w w'))
    case atStart => exact ⟨(aj), (0), (eW), H', ⟨Nat.le_refl _⟩, ⟨by (try simp only [l]); exact rP u.out⟩, ⟨by (try simp only [l]); exact rP q.out⟩, ⟨by (try simp only [l]); exact bP a.out⟩, ⟨bW⟩⟩
    case round =>
     clear H'
     obtain ⟨L, y, rfl, HA, T, u, q, a, HB⟩ := hrel
     have d := (zJ u.out).1
     rw [d] at u
     (try simp only [d])
     (try simp only [d] at a)
     (try simp only [d] at q)
     cases gk with
     | zero => exact absurd HA.out (by simp [Zai.l3])
     | succ k2 =>
      have H := HA.out
      clear HA
      simp only [Zai.l3] at H
      by_cases a8 : y < (aj.length : Int); rotate_left
      ·rw [if_neg a8] at H
       have bj := dF a8
       (try (have bk := bj; simp only [l, d] at bk))
       clear a8
       obtain rfl := oI H
       go_wp2
       go_ret
       exact ⟨_, eW, by (with_reducible repeat (first | apply zC | apply zD | apply zA)); exact zB u.out (fun _ hk => trivial), bW⟩
      rw [if_pos a8] at H
      have bj := dT a8
      (try (have bk := bj; simp only [l, d] at bk))
      clear a8
      obtain ⟨eF, H⟩ := gE H
      obtain ⟨de, H⟩ := gE H
      (try (have df := de; simp only [l, d] at df))
      obtain ⟨dZ, aS⟩ := nm (rdOf false L y)
      rw [← aS.out] at H
      by_cases b5 : dZ = true; rotate_left
      ·replace b5 := Bool.eq_false_iff.mpr b5
       subst b5
       rw [iF] at H
       obtain ⟨cF, b6⟩ := nm ((L.set (y : Int).toNat false) : List Bool)
       rw [← b6.out] at H
       have H' := mA H
       clear H
       have aC : 0 ≤ (y : Int) := ofD
       have aD : y < (L.length : Int) := ofD
       obtain ⟨bl, bC, X⟩ := yD (zJ u.out).2.2 y aC aD
       (try rw [← aS.out] at X)
       obtain rfl : (⟨z, 0, none⟩ : Addr) = bl := (by injection bC)
       (first | simp only [Zcm] at X | simp only [add_at] at X | simp only [Addr.add, Nat.zero_add] at X | skip)
       replace aC := eq_true aC
       replace aD := eq_true aD
       have cG : 0 ≤ (y : Int) := ofD
       have cH : (y : Int) < ((L.length : Int) : Int) := ofD
       obtain ⟨en, eo⟩ := yF false u.out (y : Int) cG cH
       replace cG := eq_true cG
       replace cH := eq_true cH
       have bD := yI u.out (y : Int) false
       go_wp2_with (first | ((with_reducible refine Zbq (t := 4) (p := 86) rfl ?_); refine Zdg (t := 4) (p := 86) (w1 := (wr.setCell ⟨z, (y : Int).toNat, none⟩ (.bool false))) ?_; intro cI hw; have hg : wr.grownBy cI (some z) := (by rw [hw]; exact bD.2); have hp_ : Kd.R Kd.bool 4 cI w.heap.size (fun k_ => some k_ ≠ (P : Value).ownBlock) (.slice (some ⟨z, 0, none⟩) L.length O) cF := (by rw [hw, b6.out]; exact bD.1); clear bD; replace q := mA (zR (v := (.slice (some ⟨z, 0, none⟩) L.length O)) (v1 := (.slice (some ⟨z, 0, none⟩) L.length O)) (ok := (fun _ => True)) (by (with_reducible repeat (first | apply zC | apply zD | apply zA)); exact zB q.out (fun _ hk => ⟨trivial, hk⟩)) hg (.inl rfl)); replace a := mA (Zah (g := x) (o := .cells #[.int .i64 G, .int .i64 B, .slice I D.length J, .slice aa c.length M] 77 (0, 0)) (bP a.out) hg (zN u.out a.out (by decide))); replace u := mA (hp_); replace HB := mA ((by rw [hw]; exact Za9 (HB.out) a7.out : Below w.heap.size w cI)); clear hg hw hp_))
       (try simp only [← d])
       go_roundg k2
       case measure => have := W.out; have := T.out; omega
       case rel => exact ⟨(cF), (wrap64 (y + 1)), (eW), H', ⟨by have := W.out; have := T.out; omega⟩, ⟨by (try simp only [l]); (try simp only [d]); exact rP u.out⟩, ⟨by (try simp only [l]); (try simp only [d]); (with_reducible repeat (first | apply zC | apply zD | apply zA)); exact zB q.out (fun _ hk => hk.2)⟩, ⟨by (try simp only [l]); (try simp only [d]); exact bP a.out⟩, ⟨bW⟩⟩
      subst b5
      rw [if_pos rfl] at H
      obtain ⟨dg, H⟩ := gE H
      (try (have dh := dg; simp only [l, d] at dh))
      obtain ⟨cJ, b7⟩ := nm ((L.set (y : Int).toNat (rdOf false ak y)) : List Bool)
      rw [← b7.out] at H
      have H' := mA H
      clear H
      have aC : 0 ≤ (y : Int) := ofD
      have aD : y < (L.length : Int) := ofD
      obtain ⟨bl, bC, X⟩ := yD (zJ u.out).2.2 y aC aD
      (try rw [← aS.out] at X)
      obtain rfl : (⟨z, 0, none⟩ : Addr) = bl := (by injection bC)
      (first | simp only [Zcm] at X | simp only [add_at] at X | simp only [Addr.add, Nat.zero_add] at X | skip)
      replace aC := eq_true aC
      replace aD := eq_true aD
      obtain ⟨eO, d0, d1⟩ := zP q.out
      subst d1
      have bE : 0 ≤ (y : Int) := ofD
      have bF : y < (ak.length : Int) := ofD
      obtain ⟨di, d2, cu⟩ := yD (zJ q.out).2.2 y bE bF
      (try rw [← aS.out] at cu)
      cases d2
      replace bE := eq_true bE
      replace bF := eq_true bF
      have cK : 0 ≤ (y : Int) := ofD
      have cL : (y : Int) < ((L.length : Int) : Int) := ofD
      obtain ⟨ep, er⟩ := yF false u.out (y : Int) cK cL
      replace cK := eq_true cK
      replace cL := eq_true cL
      have bG := yI u.out (y : Int) (rdOf false ak y)
      go_wp2_with (first | ((with_reducible refine Zbq (t := 4) (p := 86) rfl ?_); refine Zdg (t := 4) (p := 86) (w1 := (wr.setCell ⟨z, (y : Int).toNat, none⟩ (.bool (rdOf false ak y)))) ?_; intro cM hw; have hg : wr.grownBy cM (some z) := (by rw [hw]; exact bG.2); have hp_ : Kd.R Kd.bool 4 cM w.heap.size (fun k_ => some k_ ≠ (.slice (some di) ak.length d0 : Value).ownBlock) (.slice (some ⟨z, 0, none⟩) L.length O) cJ := (by rw [hw, b7.out]; exact bG.1); clear bG; replace q := mA (zR (v := (.slice (some ⟨z, 0, none⟩) L.length O)) (v1 := (.slice (some ⟨z, 0, none⟩) L.length O)) (ok := (fun _ => True)) (by (with_reducible repeat (first | apply zC | apply zD | apply zA)); exact zB q.out (fun _ hk => ⟨trivial, hk⟩)) hg (.inl rfl)); replace a := mA (Zah (g := x) (o := .cells #[.int .i64 G, .int .i64 B, .slice I D.length J, .slice aa c.length M] 77 (0, 0)) (bP a.out) hg (zN u.out a.out (by decide))); replace u := mA (hp_); replace HB := mA ((by rw [hw]; exact Za9 (HB.out) a7.out : Below w.heap.size w cM)); clear hg hw hp_))
      (try simp only [← d])
      go_roundg k2
      case measure => have := W.out; have := T.out; omega
      case rel => exact ⟨(cJ), (wrap64 (y + 1)), (eW), H', ⟨by have := W.out; have := T.out; omega⟩, ⟨by (try simp only [l]); (try simp only [d]); exact rP u.out⟩, ⟨by (try simp only [l]); (try simp only [d]); (with_reducible repeat (first | apply zC | apply zD | apply zA)); exact zB q.out (fun _ hk => hk.2)⟩, ⟨by (try simp only [l]); (try simp only [d]); exact bP a.out⟩, ⟨bW⟩⟩
   subst b4
   rw [if_pos rfl] at H
   have H' := mA H
   clear H
   have cv : wr.cell? ⟨x, 0, none⟩ = some (.int .i64 G) := bc a 0
   have cw : wr.cell? ⟨x, 1, none⟩ = some (.int .i64 B) := bc a 1
   have cx : wr.cell? ⟨x, 2, none⟩ = some (.slice I D.length J) := bc a 2
   have cy : wr.cell? ⟨x, 3, none⟩ = some (.slice aa c.length M) := bc a 3
   have cz := Zae a.out 0
   have cA := Zae a.out 1
   have cB := Zae a.out 2
   have cC := Zae a.out 3
   go_wp2
   go_loopg [5, 26] k1 (fun kq v5 v26 w' => ∃ (L : List Bool) (a0 : List Bool) (a1 : Bool) (b : Int), v5 = .bool a1 ∧ v26 = .int .i64 b ∧ Zac (Zai.l1 kq L a0 a1 c (c.length : Int) b G B D c = some r) ∧ Zac (kq ≤ k1) ∧ Zac (Kd.R Kd.bool 4 w' w.heap.size (fun k_ => some k_ ≠ (P : Value).ownBlock) (.slice (some ⟨z, 0, none⟩) aj.length O) L) ∧ Zac (Kd.R Kd.bool 4 w' w.heap.size (fun k_ => some k_ ≠ ((.slice (some ⟨z, 0, none⟩) aj.length O) : Value).ownBlock) P a0) ∧ Zac (w'.heap[x]? = some (.cells #[.int .i64 G, .int .i64 B, (.slice I D.length J), (.slice aa c.length M)] 77 (0, 0))) ∧ Zac (Below w.heap.size w w'))
   case atStart => exact ⟨(aj), (ak), (false), (0), (eW), (eW), H', ⟨Nat.le_refl _⟩, ⟨by (try simp only [l]); exact rP u.out⟩, ⟨by (try simp only [l]); exact rP q.out⟩, ⟨by (try simp only [l]); exact bP a.out⟩, ⟨bW⟩⟩
   case round =>
    clear H' cv cw cx cy cz cA cB cC
    obtain ⟨L, a0, a1, b, rfl, rfl, HA, T, u, q, a, HB⟩ := hrel
    have d := (zJ u.out).1
    rw [d] at u
    (try simp only [d])
    (try simp only [d] at a)
    (try simp only [d] at q)
    cases gk with
    | zero => exact absurd HA.out (by simp [Zai.l1])
    | succ k2 =>
     have H := HA.out
     clear HA
     simp only [Zai.l1] at H
     by_cases a9 : b < (c.length : Int); rotate_left
     ·rw [if_neg a9] at H
      have aT := dF a9
      (try (have bm := aT; simp only [l, d] at bm))
      clear a9
      have H' := mA H
      clear H
      go_wp2
      (try simp only [← l, ← d])
      go_roundg k2
      case measure => have := W.out; have := T.out; omega
      case rel => exact ⟨(L), (a0), (a1), (eW), H', ⟨by have := W.out; have := T.out; omega⟩, ⟨by (try simp only [l]); (try simp only [d]); exact rP u.out⟩, ⟨by (try simp only [l]); (try simp only [d]); exact rP q.out⟩, ⟨by (try simp only [l]); (try simp only [d]); exact bP a.out⟩, ⟨bW⟩⟩
     rw [if_pos a9] at H
     have aT := dT a9
     (try (have bm := aT; simp only [l, d] at bm))
     clear a9
     obtain ⟨dj, H⟩ := gE H
     obtain ⟨b8, H⟩ := gE H
     (try (have dk := b8; simp only [l, d] at dk))
     have H' := mA H
     clear H
     have bn : 0 ≤ (b : Int) := ofD
     have bo : b < (c.length : Int) := ofD
     obtain ⟨aq, es, et, d3, ay, ba, bb⟩ := at_L3 dc.out b bn bo
     cases d3
     replace ay := (HB.out.cell (wB w ay)).trans ay
     have bd := mA bb
     have ek := mA ba
     clear bb ba
     replace bn := eq_true bn
     replace bo := eq_true bo
     go_wp2
     go_loopg [5, 33] k2 (fun kq v5 v33 w' => ∃ (E : List Bool) (A : List Bool) (ar : Bool) (m : Int), v5 = .bool ar ∧ v33 = .int .i64 m ∧ Zac (Zai.l2 kq E A ar b c (c.length : Int) b (Zam c b) ((Zam c b).length : Int) m G B D c = some r) ∧ Zac (kq ≤ k2) ∧ Zac (Kd.R Kd.bool 4 w' w.heap.size (fun k_ => some k_ ≠ (P : Value).ownBlock) (.slice (some ⟨z, 0, none⟩) L.length O) E) ∧ Zac (Kd.R Kd.bool 4 w' w.heap.size (fun k_ => some k_ ≠ ((.slice (some ⟨z, 0, none⟩) L.length O) : Value).ownBlock) P A) ∧ Zac (w'.heap[x]? = some (.cells #[.int .i64 G, .int .i64 B, (.slice I D.length J), (.slice (some aq) c.length M)] 77 (0, 0))) ∧ Zac (Below w.heap.size w w'))
     case atStart => exact ⟨(L), (a0), (a1), (0), (eW), (eW), H', ⟨Nat.le_refl _⟩, ⟨by (try simp only [l]); (try simp only [d]); exact rP u.out⟩, ⟨by (try simp only [l]); (try simp only [d]); exact rP q.out⟩, ⟨by (try simp only [l]); (try simp only [d]); exact bP a.out⟩, ⟨bW⟩⟩
     case round =>
      clear H' aT dj b8 ay bn bo
      obtain ⟨E, A, ar, m, rfl, rfl, HA, ae, u, q, a, HB⟩ := hrel
      have s := (zJ u.out).1
      rw [s] at u
      (try simp only [s])
      (try simp only [s] at a)
      (try simp only [s] at q)
      cases gk with
      | zero => exact absurd HA.out (by simp [Zai.l2])
      | succ k3 =>
       have H := HA.out
       clear HA
       simp only [Zai.l2] at H
       by_cases bf : m < ((Zam c b).length : Int); rotate_left
       ·rw [if_neg bf] at H
        have aU := dF bf
        (try (have bp := aU; simp only [l, d, s] at bp))
        clear bf
        have H' := mA H
        clear H
        go_wp2
        (try simp only [← d, ← s])
        go_roundg k3
        case measure => have := W.out; have := T.out; have := ae.out; omega
        case rel => exact ⟨(E), (A), (ar), (wrap64 (b + 1)), (eW), (eW), H', ⟨by have := W.out; have := T.out; have := ae.out; omega⟩, ⟨by (try simp only [l]); (try simp only [d]); (try simp only [s]); exact rP u.out⟩, ⟨by (try simp only [l]); (try simp only [d]); (try simp only [s]); exact rP q.out⟩, ⟨by (try simp only [l]); (try simp only [d]); (try simp only [s]); exact bP a.out⟩, ⟨bW⟩⟩
       rw [if_pos bf] at H
       have aU := dT bf
       (try (have bp := aU; simp only [l, d, s] at bp))
       clear bf
       obtain ⟨dl, H⟩ := gE H
       obtain ⟨b9, H⟩ := gE H
       (try (have dm := b9; simp only [l, d, s] at dm))
       by_cases bg : (rd (Zam c b) m) < 0
       ·rw [if_pos bg] at H
        have ca := dT bg
        clear bg
        have H' := mA H
        clear H
        have au : 0 ≤ (m : Int) := ofD
        have av : m < ((Zam c b).length : Int) := ofD
        obtain ⟨dn, bH, ab⟩ := zO bd.out m au av
        cases bH
        replace ab := (HB.out.cell (wB w ab)).trans ab
        replace au := eq_true au
        replace av := eq_true av
        go_wp2
        (try simp only [← s])
        go_roundg k3
        case measure => have := W.out; have := T.out; have := ae.out; omega
        case rel => exact ⟨(E), (A), (ar), (wrap64 (m + 1)), (eW), (eW), H', ⟨by have := W.out; have := T.out; have := ae.out; omega⟩, ⟨by (try simp only [l]); (try simp only [d]); (try simp only [s]); exact rP u.out⟩, ⟨by (try simp only [l]); (try simp only [d]); (try simp only [s]); exact rP q.out⟩, ⟨by (try simp only [l]); (try simp only [d]); (try simp only [s]); exact bP a.out⟩, ⟨bW⟩⟩
       rw [if_neg bg] at H
       have ca := dF bg
       clear bg
       have bI := mA H
       clear H
       have au : 0 ≤ (m : Int) := ofD
       have av : m < ((Zam c b).length : Int) := ofD
       obtain ⟨dn, bH, ab⟩ := zO bd.out m au av
       cases bH
       replace ab := (HB.out.cell (wB w ab)).trans ab
       replace au := eq_true au
       replace av := eq_true av
       go_upto_region 13 with (fail)
       go_cut [49] (fun v49 wc => ∃ (kq : Nat) (aK : Bool), v49 = .bool aK ∧ Zac (Zai.j3 kq E A ar b (rd (Zam c b) m) c (c.length : Int) b (Zam c b) ((Zam c b).length : Int) m aK G B D c = some r) ∧ Zac (kq ≤ k3) ∧ Zac (Kd.R Kd.bool 4 wc w.heap.size (fun k_ => some k_ ≠ (P : Value).ownBlock) (.slice (some ⟨z, 0, none⟩) E.length O) E) ∧ Zac (Kd.R Kd.bool 4 wc w.heap.size (fun k_ => some k_ ≠ ((.slice (some ⟨z, 0, none⟩) E.length O) : Value).ownBlock) P A) ∧ Zac (wc.heap[x]? = some (.cells #[.int .i64 G, .int .i64 B, (.slice I D.length J), (.slice (some aq) c.length M)] 77 (0, 0))) ∧ Zac (Below w.heap.size w wc))
       case first =>
        have H := bI.out
        clear bI
        obtain ⟨cb, H⟩ := gE H
        (first | rw [cb] | (simp only [Zcq, i32_w]; rw [cb]) | skip)
        obtain ⟨dp, H⟩ := gE H
        (try (have dq := dp; simp only [l, d, s] at dq))
        obtain ⟨d4, aV⟩ := nm (rdOf false E b)
        rw [← aV.out] at H
        by_cases cc : d4 = true; rotate_left
        ·replace cc := Bool.eq_false_iff.mpr cc
         subst cc
         rw [iF] at H
         have H' := mA H
         clear H
         have aE : 0 ≤ (b : Int) := ofD
         have aF : b < (E.length : Int) := ofD
         obtain ⟨bq, bJ, Y⟩ := yD (zJ u.out).2.2 b aE aF
         (try rw [← aV.out] at Y)
         obtain rfl : (⟨z, 0, none⟩ : Addr) = bq := (by injection bJ)
         (first | simp only [Zcm] at Y | simp only [add_at] at Y | simp only [Addr.add, Nat.zero_add] at Y | skip)
         replace aE := eq_true aE
         replace aF := eq_true aF
         go_wp2
         go_meet
         case rel => exact ⟨_, (false), (eW), H', ⟨by have := W.out; have := T.out; have := ae.out; first | omega | exact Nat.le_refl _⟩, ⟨by (try simp only [l]); (try simp only [d]); (try simp only [s]); exact rP u.out⟩, ⟨by (try simp only [l]); (try simp only [d]); (try simp only [s]); exact rP q.out⟩, ⟨by (try simp only [l]); (try simp only [d]); (try simp only [s]); exact bP a.out⟩, ⟨bW⟩⟩
        subst cc
        rw [if_pos rfl] at H
        obtain ⟨eG, H⟩ := gE H
        obtain ⟨dr, H⟩ := gE H
        (try (have dt := dr; simp only [l, d, s] at dt))
        have H' := mA H
        clear H
        have aE : 0 ≤ (b : Int) := ofD
        have aF : b < (E.length : Int) := ofD
        obtain ⟨bq, bJ, Y⟩ := yD (zJ u.out).2.2 b aE aF
        (try rw [← aV.out] at Y)
        obtain rfl : (⟨z, 0, none⟩ : Addr) = bq := (by injection bJ)
        (first | simp only [Zcm] at Y | simp only [add_at] at Y | simp only [Addr.add, Nat.zero_add] at Y | skip)
        replace aE := eq_true aE
        replace aF := eq_true aF
        have bK : 0 ≤ ((rd (Zam c b) m) : Int) := ofD
        have bL : (rd (Zam c b) m) < (E.length : Int) := ofD
        obtain ⟨du, d5, az⟩ := yD (zJ u.out).2.2 (rd (Zam c b) m) bK bL
        (try rw [← aV.out] at az)
        obtain rfl : (⟨z, 0, none⟩ : Addr) = du := (by injection d5)
        (first | simp only [Zcm] at az | simp only [add_at] at az | simp only [Addr.add, Nat.zero_add] at az | skip)
        replace bK := eq_true bK
        replace bL := eq_true bL
        go_wp2
        go_meet
        case rel => exact ⟨_, (!(rdOf false E (rd (Zam c b) m))), (eW), H', ⟨by have := W.out; have := T.out; have := ae.out; first | omega | exact Nat.le_refl _⟩, ⟨by (try simp only [l]); (try simp only [d]); (try simp only [s]); exact rP u.out⟩, ⟨by (try simp only [l]); (try simp only [d]); (try simp only [s]); exact rP q.out⟩, ⟨by (try simp only [l]); (try simp only [d]); (try simp only [s]); exact bP a.out⟩, ⟨bW⟩⟩
       case rest =>
        clear bI aU dl b9 ca ab au av
        obtain ⟨kq, aK, rfl, HA, ag, u, q, a, HB⟩ := hcut
        cases kq with
        | zero => exact absurd HA.out (by simp [Zai.j3])
        | succ aP =>
         have H := HA.out
         clear HA
         simp only [Zai.j3] at H
         by_cases cd : aK = true; rotate_left
         ·replace cd := Bool.eq_false_iff.mpr cd
          subst cd
          rw [iF] at H
          obtain ⟨eH, H⟩ := gE H
          obtain ⟨dv, H⟩ := gE H
          (try (have dw := dv; simp only [l, d, s] at dw))
          obtain ⟨d6, aA⟩ := nm (rdOf false A (rd (Zam c b) m))
          rw [← aA.out] at H
          by_cases ce : d6 = true; rotate_left
          ·replace ce := Bool.eq_false_iff.mpr ce
           subst ce
           rw [iF] at H
           have H' := mA H
           clear H
           obtain ⟨eP, eQ, d7⟩ := zP q.out
           subst d7
           have al : 0 ≤ ((rd (Zam c b) m) : Int) := ofD
           have am : (rd (Zam c b) m) < (A.length : Int) := ofD
           obtain ⟨aW, a2, ac⟩ := yD (zJ q.out).2.2 (rd (Zam c b) m) al am
           (try rw [← aA.out] at ac)
           cases a2
           replace al := eq_true al
           replace am := eq_true am
           go_wp2
           (try simp only [← s])
           go_roundg aP
           case measure => have := W.out; have := T.out; have := ae.out; have := ag.out; omega
           case rel => exact ⟨(E), (A), (ar), (wrap64 (m + 1)), (eW), (eW), H', ⟨by have := W.out; have := T.out; have := ae.out; have := ag.out; omega⟩, ⟨by (try simp only [l]); (try simp only [d]); (try simp only [s]); exact rP u.out⟩, ⟨by (try simp only [l]); (try simp only [d]); (try simp only [s]); exact rP q.out⟩, ⟨by (try simp only [l]); (try simp only [d]); (try simp only [s]); exact bP a.out⟩, ⟨bW⟩⟩
          subst ce
          rw [if_pos rfl] at H
          obtain ⟨eI, H⟩ := gE H
          obtain ⟨dx, H⟩ := gE H
          (try (have dy := dx; simp only [l, d, s] at dy))
          obtain ⟨d8, aL⟩ := nm (rdOf false A b)
          rw [← aL.out] at H
          by_cases cf : d8 = true
          ·subst cf
           rw [if_pos rfl] at H
           have H' := mA H
           clear H
           obtain ⟨eR, eS, d9⟩ := zP q.out
           subst d9
           have al : 0 ≤ ((rd (Zam c b) m) : Int) := ofD
           have am : (rd (Zam c b) m) < (A.length : Int) := ofD
           obtain ⟨aW, a2, ac⟩ := yD (zJ q.out).2.2 (rd (Zam c b) m) al am
           (try rw [← aA.out] at ac)
           (try rw [← aL.out] at ac)
           cases a2
           replace al := eq_true al
           replace am := eq_true am
           have aG : 0 ≤ (b : Int) := ofD
           have aH : b < (A.length : Int) := ofD
           obtain ⟨br, bM, ah⟩ := yD (zJ q.out).2.2 b aG aH
           (try rw [← aA.out] at ah)
           (try rw [← aL.out] at ah)
           obtain rfl : aW = br := (by injection bM)
           replace aG := eq_true aG
           replace aH := eq_true aH
           go_wp2
           (try simp only [← s])
           go_roundg aP
           case measure => have := W.out; have := T.out; have := ae.out; have := ag.out; omega
           case rel => exact ⟨(E), (A), (ar), (wrap64 (m + 1)), (eW), (eW), H', ⟨by have := W.out; have := T.out; have := ae.out; have := ag.out; omega⟩, ⟨by (try simp only [l]); (try simp only [d]); (try simp only [s]); exact rP u.out⟩, ⟨by (try simp only [l]); (try simp only [d]); (try simp only [s]); exact rP q.out⟩, ⟨by (try simp only [l]); (try simp only [d]); (try simp only [s]); exact bP a.out⟩, ⟨bW⟩⟩
          replace cf := Bool.eq_false_iff.mpr cf
          subst cf
          rw [iF] at H
          obtain ⟨cN, cg⟩ := nm ((A.set (b : Int).toNat true) : List Bool)
          rw [← cg.out] at H
          have H' := mA H
          clear H
          obtain ⟨eT, bN, ea⟩ := zP q.out
          subst ea
          have al : 0 ≤ ((rd (Zam c b) m) : Int) := ofD
          have am : (rd (Zam c b) m) < (A.length : Int) := ofD
          obtain ⟨aW, a2, ac⟩ := yD (zJ q.out).2.2 (rd (Zam c b) m) al am
          (try rw [← aA.out] at ac)
          (try rw [← aL.out] at ac)
          cases a2
          replace al := eq_true al
          replace am := eq_true am
          have aG : 0 ≤ (b : Int) := ofD
          have aH : b < (A.length : Int) := ofD
          obtain ⟨br, bM, ah⟩ := yD (zJ q.out).2.2 b aG aH
          (try rw [← aA.out] at ah)
          (try rw [← aL.out] at ah)
          obtain rfl : aW = br := (by injection bM)
          replace aG := eq_true aG
          replace aH := eq_true aH
          have cO : 0 ≤ (b : Int) := ofD
          have cQ : (b : Int) < ((A.length : Int) : Int) := ofD
          obtain ⟨a3, eU, cR, cS, eb, eV, cT⟩ := yK q.out (by omega)
          (first | cases cR | (injection cR with ea_ en_ ec_; (first | subst ea_ | (injection ea_ with ea_; subst ea_)); subst ec_; clear en_))
          have ec := mA cS
          have eX := mA cT
          clear cS eb cT
          (first | simp only [Zcm] at ac | skip)
          (first | simp only [Zcm] at ah | skip)
          obtain ⟨eu, ev⟩ := yF false q.out (b : Int) cO cQ
          replace cO := eq_true cO
          replace cQ := eq_true cQ
          have bO := yI q.out (b : Int) true
          go_wp2_with (first | ((with_reducible refine Zbq (t := 4) (p := 66) rfl ?_); refine Zdg (t := 4) (p := 66) (w1 := (wc.setCell ⟨a3, (b : Int).toNat, none⟩ (.bool true))) ?_; intro cU hw; have hg : wc.grownBy cU (some a3) := (by rw [hw]; exact bO.2); have hp_ : Kd.R Kd.bool 4 cU w.heap.size (fun k_ => some k_ ≠ (.slice (some ⟨z, 0, none⟩) E.length O : Value).ownBlock) (.slice (some ⟨a3, 0, none⟩) A.length bN) cN := (by rw [hw, cg.out]; exact bO.1); clear bO; replace u := mA (zR (v := (.slice (some ⟨a3, 0, none⟩) A.length bN)) (v1 := (.slice (some ⟨a3, 0, none⟩) A.length bN)) (ok := (fun _ => True)) (by (with_reducible repeat (first | apply zC | apply zD | apply zA)); exact zB u.out (fun _ hk => ⟨trivial, hk⟩)) hg (.inl rfl)); replace a := mA (Zah (g := x) (o := .cells #[.int .i64 G, .int .i64 B, .slice I D.length J, .slice (some aq) c.length M] 77 (0, 0)) (bP a.out) hg (zN q.out a.out (by decide))); replace q := mA (hp_); replace HB := mA ((by rw [hw]; exact Za9 (HB.out) ec.out : Below w.heap.size w cU)); clear hg hw hp_))
          (try simp only [← s])
          go_roundg aP
          case measure => have := W.out; have := T.out; have := ae.out; have := ag.out; omega
          case rel => exact ⟨(E), (cN), (true), (wrap64 (m + 1)), (eW), (eW), H', ⟨by have := W.out; have := T.out; have := ae.out; have := ag.out; omega⟩, ⟨by (try simp only [l]); (try simp only [d]); (try simp only [s]); (with_reducible repeat (first | apply zC | apply zD | apply zA)); exact zB u.out (fun _ hk => hk.2)⟩, ⟨by (try simp only [l]); (try simp only [d]); (try simp only [s]); exact rP q.out⟩, ⟨by (try simp only [l]); (try simp only [d]); (try simp only [s]); exact bP a.out⟩, ⟨bW⟩⟩
         subst cd
         rw [if_pos rfl] at H
         obtain ⟨eJ, H⟩ := gE H
         obtain ⟨dz, H⟩ := gE H
         (try (have dA := dz; simp only [l, d, s] at dA))
         obtain ⟨aQ, bs⟩ : ∃ y_ : List Bool, y_ = (E.set ((rd (Zam c b) m) : Int).toNat true) := ⟨_, rfl⟩
         replace H := bsm bs H
         have bu := mA bs
         clear bs
         obtain ⟨dB, H⟩ := gE H
         (try (have dC := dB; simp only [l, d, s] at dC))
         obtain ⟨ed, aB⟩ := nm (rdOf false A (rd (Zam c b) m))
         rw [← aB.out] at H
         by_cases ch : ed = true; rotate_left
         ·replace ch := Bool.eq_false_iff.mpr ch
          subst ch
          rw [iF] at H
          have H' := mA H
          clear H
          have aw : 0 ≤ ((rd (Zam c b) m) : Int) := ofD
          have ax : ((rd (Zam c b) m) : Int) < ((E.length : Int) : Int) := ofD
          obtain ⟨bw, bx⟩ := yF false u.out ((rd (Zam c b) m) : Int) aw ax
          replace aw := eq_true aw
          replace ax := eq_true ax
          have bQ := yI u.out ((rd (Zam c b) m) : Int) true
          go_wp2_with (first | ((with_reducible refine Zbq (t := 4) (p := 52) rfl ?_); refine store_event (t := 4) (p := 52) (v := ?vo_w54) (w1 := (wc.setCell ⟨z, ((rd (Zam c b) m) : Int).toNat, none⟩ (.bool true))) ?hg ?ho ?hn ?hr ?_; (case ho => rfl); (case hg => rfl); (case hn => rfl); (case hr => first | (go_simp; done) | (go_simp; rfl)); intro cV hw; have hg : wc.grownBy cV (some z) := (by rw [hw]; exact bQ.2); have hp_ : Kd.R Kd.bool 4 cV w.heap.size (fun k_ => some k_ ≠ (P : Value).ownBlock) (.slice (some ⟨z, 0, none⟩) E.length O) aQ := (by rw [hw, bu.out]; exact bQ.1); clear bQ; replace q := mA (zR (v := (.slice (some ⟨z, 0, none⟩) E.length O)) (v1 := (.slice (some ⟨z, 0, none⟩) E.length O)) (ok := (fun _ => True)) (by (with_reducible repeat (first | apply zC | apply zD | apply zA)); exact zB q.out (fun _ hk => ⟨trivial, hk⟩)) hg (.inl rfl)); replace a := mA (Zah (g := x) (o := .cells #[.int .i64 G, .int .i64 B, .slice I D.length J, .slice (some aq) c.length M] 77 (0, 0)) (bP a.out) hg (zN u.out a.out (by decide))); replace u := mA (hp_); replace HB := mA ((by rw [hw]; exact Za9 (HB.out) a7.out : Below w.heap.size w cV)); clear hg hw hp_; obtain ⟨eY, eZ, ee⟩ := zP q.out; subst ee; have an : 0 ≤ ((rd (Zam c b) m) : Int) := ofD; have ao : (rd (Zam c b) m) < (A.length : Int) := ofD; obtain ⟨aX, a4, ad⟩ := yD (zJ q.out).2.2 (rd (Zam c b) m) an ao; (try rw [← aB.out] at ad); cases a4; replace an := eq_true an; replace ao := eq_true ao))
          (try simp only [← s])
          go_roundg aP
          case measure => have := W.out; have := T.out; have := ae.out; have := ag.out; omega
          case rel => exact ⟨(aQ), (A), (true), (wrap64 (m + 1)), (eW), (eW), H', ⟨by have := W.out; have := T.out; have := ae.out; have := ag.out; omega⟩, ⟨by (try simp only [l]); (try simp only [d]); (try simp only [s]); exact rP u.out⟩, ⟨by (try simp only [l]); (try simp only [d]); (try simp only [s]); (with_reducible repeat (first | apply zC | apply zD | apply zA)); exact zB q.out (fun _ hk => hk.2)⟩, ⟨by (try simp only [l]); (try simp only [d]); (try simp only [s]); exact bP a.out⟩, ⟨bW⟩⟩
         subst ch
         rw [if_pos rfl] at H
         obtain ⟨eK, H⟩ := gE H
         obtain ⟨dD, H⟩ := gE H
         (try (have dE := dD; simp only [l, d, s] at dE))
         obtain ⟨ef, aM⟩ := nm (rdOf false A b)
         rw [← aM.out] at H
         by_cases ci : ef = true
         ·subst ci
          rw [if_pos rfl] at H
          have H' := mA H
          clear H
          have aw : 0 ≤ ((rd (Zam c b) m) : Int) := ofD
          have ax : ((rd (Zam c b) m) : Int) < ((E.length : Int) : Int) := ofD
          obtain ⟨bw, bx⟩ := yF false u.out ((rd (Zam c b) m) : Int) aw ax
          replace aw := eq_true aw
          replace ax := eq_true ax
          have bR := yI u.out ((rd (Zam c b) m) : Int) true
          go_wp2_with (first | ((with_reducible refine Zbq (t := 4) (p := 52) rfl ?_); refine store_event (t := 4) (p := 52) (v := ?vo_w45) (w1 := (wc.setCell ⟨z, ((rd (Zam c b) m) : Int).toNat, none⟩ (.bool true))) ?hg ?ho ?hn ?hr ?_; (case ho => rfl); (case hg => rfl); (case hn => rfl); (case hr => first | (go_simp; done) | (go_simp; rfl)); intro cW hw; have hg : wc.grownBy cW (some z) := (by rw [hw]; exact bR.2); have hp_ : Kd.R Kd.bool 4 cW w.heap.size (fun k_ => some k_ ≠ (P : Value).ownBlock) (.slice (some ⟨z, 0, none⟩) E.length O) aQ := (by rw [hw, bu.out]; exact bR.1); clear bR; replace q := mA (zR (v := (.slice (some ⟨z, 0, none⟩) E.length O)) (v1 := (.slice (some ⟨z, 0, none⟩) E.length O)) (ok := (fun _ => True)) (by (with_reducible repeat (first | apply zC | apply zD | apply zA)); exact zB q.out (fun _ hk => ⟨trivial, hk⟩)) hg (.inl rfl)); replace a := mA (Zah (g := x) (o := .cells #[.int .i64 G, .int .i64 B, .slice I D.length J, .slice (some aq) c.length M] 77 (0, 0)) (bP a.out) hg (zN u.out a.out (by decide))); replace u := mA (hp_); replace HB := mA ((by rw [hw]; exact Za9 (HB.out) a7.out : Below w.heap.size w cW)); clear hg hw hp_; obtain ⟨e0, e1, eg⟩ := zP q.out; subst eg; have an : 0 ≤ ((rd (Zam c b) m) : Int) := ofD; have ao : (rd (Zam c b) m) < (A.length : Int) := ofD; obtain ⟨aX, a4, ad⟩ := yD (zJ q.out).2.2 (rd (Zam c b) m) an ao; (try rw [← aB.out] at ad); (try rw [← aM.out] at ad); cases a4; replace an := eq_true an; replace ao := eq_true ao; have aI : 0 ≤ (b : Int) := ofD; have aJ : b < (A.length : Int) := ofD; obtain ⟨bv, bS, ai⟩ := yD (zJ q.out).2.2 b aI aJ; (try rw [← aB.out] at ai); (try rw [← aM.out] at ai); obtain rfl : aX = bv := (by injection bS); replace aI := eq_true aI; replace aJ := eq_true aJ))
          (try simp only [← s])
          go_roundg aP
          case measure => have := W.out; have := T.out; have := ae.out; have := ag.out; omega
          case rel => exact ⟨(aQ), (A), (true), (wrap64 (m + 1)), (eW), (eW), H', ⟨by have := W.out; have := T.out; have := ae.out; have := ag.out; omega⟩, ⟨by (try simp only [l]); (try simp only [d]); (try simp only [s]); exact rP u.out⟩, ⟨by (try simp only [l]); (try simp only [d]); (try simp only [s]); (with_reducible repeat (first | apply zC | apply zD | apply zA)); exact zB q.out (fun _ hk => hk.2)⟩, ⟨by (try simp only [l]); (try simp only [d]); (try simp only [s]); exact bP a.out⟩, ⟨bW⟩⟩
         replace ci := Bool.eq_false_iff.mpr ci
         subst ci
         rw [iF] at H
         obtain ⟨cX, cj⟩ := nm ((A.set (b : Int).toNat true) : List Bool)
         rw [← cj.out] at H
         have H' := mA H
         clear H
         have aw : 0 ≤ ((rd (Zam c b) m) : Int) := ofD
         have ax : ((rd (Zam c b) m) : Int) < ((E.length : Int) : Int) := ofD
         obtain ⟨bw, bx⟩ := yF false u.out ((rd (Zam c b) m) : Int) aw ax
         replace aw := eq_true aw
         replace ax := eq_true ax
         have bT := yI u.out ((rd (Zam c b) m) : Int) true
         go_wp2_with (first | ((with_reducible refine Zbq (t := 4) (p := 52) rfl ?_); refine store_event (t := 4) (p := 52) (v := ?vo_w49) (w1 := (wc.setCell ⟨z, ((rd (Zam c b) m) : Int).toNat, none⟩ (.bool true))) ?hg ?ho ?hn ?hr ?_; (case ho => rfl); (case hg => rfl); (case hn => rfl); (case hr => first | (go_simp; done) | (go_simp; rfl)); intro bz hw; have hg : wc.grownBy bz (some z) := (by rw [hw]; exact bT.2); have hp_ : Kd.R Kd.bool 4 bz w.heap.size (fun k_ => some k_ ≠ (P : Value).ownBlock) (.slice (some ⟨z, 0, none⟩) E.length O) aQ := (by rw [hw, bu.out]; exact bT.1); clear bT; replace q := mA (zR (v := (.slice (some ⟨z, 0, none⟩) E.length O)) (v1 := (.slice (some ⟨z, 0, none⟩) E.length O)) (ok := (fun _ => True)) (by (with_reducible repeat (first | apply zC | apply zD | apply zA)); exact zB q.out (fun _ hk => ⟨trivial, hk⟩)) hg (.inl rfl)); replace a := mA (Zah (g := x) (o := .cells #[.int .i64 G, .int .i64 B, .slice I D.length J, .slice (some aq) c.length M] 77 (0, 0)) (bP a.out) hg (zN u.out a.out (by decide))); replace u := mA (hp_); replace HB := mA ((by rw [hw]; exact Za9 (HB.out) a7.out : Below w.heap.size w bz)); clear hg hw hp_; obtain ⟨e2, bU, eh⟩ := zP q.out; subst eh; have an : 0 ≤ ((rd (Zam c b) m) : Int) := ofD; have ao : (rd (Zam c b) m) < (A.length : Int) := ofD; obtain ⟨aX, a4, ad⟩ := yD (zJ q.out).2.2 (rd (Zam c b) m) an ao; (try rw [← aB.out] at ad); (try rw [← aM.out] at ad); cases a4; replace an := eq_true an; replace ao := eq_true ao; have aI : 0 ≤ (b : Int) := ofD; have aJ : b < (A.length : Int) := ofD; obtain ⟨bv, bS, ai⟩ := yD (zJ q.out).2.2 b aI aJ; (try rw [← aB.out] at ai); (try rw [← aM.out] at ai); obtain rfl : aX = bv := (by injection bS); replace aI := eq_true aI; replace aJ := eq_true aJ; have cY : 0 ≤ (b : Int) := ofD; have cZ : (b : Int) < ((A.length : Int) : Int) := ofD; obtain ⟨a5, e3, c0, c1, ei, e4, da⟩ := yK q.out (by omega); (first | cases c0 | (injection c0 with ea_ en_ ec_; (first | subst ea_ | (injection ea_ with ea_; subst ea_)); subst ec_; clear en_)); have ej := mA c1; have e5 := mA da; clear c1 ei da; (first | simp only [Zcm] at ad | skip); (first | simp only [Zcm] at ai | skip); obtain ⟨ew, ey⟩ := yF false q.out (b : Int) cY cZ; replace cY := eq_true cY; replace cZ := eq_true cZ; have n_ := mA (zB (ok' := (fun k_ => some k_ ≠ (.slice (some ⟨z, 0, none⟩) E.length O : Value).ownBlock)) q.out (fun k_ hk => hk.2)); clear q; have q := n_; clear n_; obtain ⟨eL, eM⟩ := yF false q.out (b : Int) (ofD) (ofD); have bV := yI q.out (b : Int) true) | ((with_reducible refine Zbq (t := 4) (p := 66) rfl ?_); refine Zdg (t := 4) (p := 66) (w1 := (bz.setCell ⟨a5, (b : Int).toNat, none⟩ (.bool true))) ?_; intro db hw; have hg : bz.grownBy db (some a5) := (by rw [hw]; exact bV.2); have hp_ : Kd.R Kd.bool 4 db w.heap.size (fun k_ => some k_ ≠ (.slice (some ⟨z, 0, none⟩) E.length O : Value).ownBlock) (.slice (some ⟨a5, 0, none⟩) A.length bU) cX := (by rw [hw, cj.out]; exact bV.1); clear bV; replace u := mA (zR (v := (.slice (some ⟨a5, 0, none⟩) A.length bU)) (v1 := (.slice (some ⟨a5, 0, none⟩) A.length bU)) (ok := (fun _ => True)) (by (with_reducible repeat (first | apply zC | apply zD | apply zA)); exact zB u.out (fun _ hk => ⟨trivial, hk⟩)) hg (.inl rfl)); replace a := mA (Zah (g := x) (o := .cells #[.int .i64 G, .int .i64 B, .slice I D.length J, .slice (some aq) c.length M] 77 (0, 0)) (bP a.out) hg (zN q.out a.out (by decide))); replace q := mA (hp_); replace HB := mA ((by rw [hw]; exact Za9 (HB.out) ej.out : Below w.heap.size w db)); clear hg hw hp_))
         (try simp only [← s])
         go_roundg aP
         case measure => have := W.out; have := T.out; have := ae.out; have := ag.out; omega
         case rel => exact ⟨(aQ), (cX), (true), (wrap64 (m + 1)), (eW), (eW), H', ⟨by have := W.out; have := T.out; have := ae.out; have := ag.out; omega⟩, ⟨by (try simp only [l]); (try simp only [d]); (try simp only [s]); (with_reducible repeat (first | apply zC | apply zD | apply zA)); exact zB u.out (fun _ hk => hk.2)⟩, ⟨by (try simp only [l]); (try simp only [d]); (try simp only [s]); exact rP q.out⟩, ⟨by (try simp only [l]); (try simp only [d]); (try simp only [s]); exact bP a.out⟩, ⟨bW⟩⟩
end Go.Proofs.YtjdkedmdeajmgaaDoor.P
end M0
