import Derived.Test.YtlmicipfikammaaDoorCFnExactLoopFault9
section
namespace Go.Proofs.YtlmicipfikammaaDoor.P
open Go.RowKit Go.Proofs.YtlmicipfikammaaDoor.Sh Go.Proofs.YtlmicipfikammaaDoorW.PrintWords Go.Proofs.YtlmicipfikammaaDoorW.PrintLast Go.Proofs.YtlmicipfikammaaDoorW.PrintMore
open Kd
attribute [local go_sem] Zb8 Zcb Zcm Zcl Zb4 Zb3 Zb7 Zcd   -- for this text's walks alone
set_option linter.unusedVariables false
set_option linter.unusedSimpArgs false
mutual
def Zad.l0 : Nat → List Bool → List Bool → Bool → Int → Int → List Bool → List (List Int) → Option (List Bool)
 | 0, _, _, _, _, _, _, _ => none
 | k + 1, x3, x4, x5, b, c, d, a => if x5 = true then (Zad.l1 k x3 x4 false a (a.length : Int) 0 b c d a) else (Zad.l3 k x3 x4 (x3.length : Int) 0)
def Zad.l1 : Nat → List Bool → List Bool → Bool → List (List Int) → Int → Int → Int → Int → List Bool → List (List Int) → Option (List Bool)
 | 0, _, _, _, _, _, _, _, _, _, _ => none
 | k + 1, x3, x4, x5, g, h, a, b, c, d, e => if a < h then (if 0 ≤ a then (if a < (g.length : Int) then (Zad.l2 k x3 x4 x5 a g h a (Zae g a) ((Zae g a).length : Int) 0 b c d e) else (none)) else (none)) else (Zad.l0 k x3 x4 x5 b c d e)
def Zad.l2 : Nat → List Bool → List Bool → Bool → Int → List (List Int) → Int → Int → List Int → Int → Int → Int → Int → List Bool → List (List Int) → Option (List Bool)
 | 0, _, _, _, _, _, _, _, _, _, _, _, _, _, _ => none
 | k + 1, x3, x4, x5, x6, h, i, j, g, l, a, b, c, d, e => if a < l then (if 0 ≤ a then (if a < (g.length : Int) then (if (rd g a) < 0 then (Zad.l2 k x3 x4 x5 x6 h i j g l (wrap64 (a + 1)) b c d e) else (if 0 ≤ x6 then (if x6 < (x3.length : Int) then (if rdOf false x3 x6 = true then (if 0 ≤ (rd g a) then (if (rd g a) < (x3.length : Int) then (Zad.j3 k x3 x4 x5 x6 (rd g a) h i j g l a (!(rdOf false x3 (rd g a))) b c d e) else (none)) else (none)) else (Zad.j3 k x3 x4 x5 x6 (rd g a) h i j g l a false b c d e)) else (none)) else (none))) else (none)) else (none)) else (Zad.l1 k x3 x4 x5 h i (wrap64 (j + 1)) b c d e)
def Zad.j3 : Nat → List Bool → List Bool → Bool → Int → Int → List (List Int) → Int → Int → List Int → Int → Int → Bool → Int → Int → List Bool → List (List Int) → Option (List Bool)
 | 0, _, _, _, _, _, _, _, _, _, _, _, _, _, _, _, _ => none
 | k + 1, x3, x4, x5, x6, x9, e, g, h, i, j, l, n, a, b, c, d => if n = true then (if 0 ≤ x9 then (if x9 < (x3.length : Int) then ((some (x3.set (x9 : Int).toNat true : List Bool)).bind fun m => (if x9 < (x4.length : Int) then (if rdOf false x4 x9 = true then (if 0 ≤ x6 then (if x6 < (x4.length : Int) then (if rdOf false x4 x6 = true then (Zad.l2 k m x4 true x6 e g h i j (wrap64 (l + 1)) a b c d) else (Zad.l2 k m (x4.set (x6 : Int).toNat true) true x6 e g h i j (wrap64 (l + 1)) a b c d)) else (none)) else (none)) else (Zad.l2 k m x4 true x6 e g h i j (wrap64 (l + 1)) a b c d)) else (none))) else (none)) else (none)) else (if 0 ≤ x9 then (if x9 < (x4.length : Int) then (if rdOf false x4 x9 = true then (if 0 ≤ x6 then (if x6 < (x4.length : Int) then (if rdOf false x4 x6 = true then (Zad.l2 k x3 x4 x5 x6 e g h i j (wrap64 (l + 1)) a b c d) else (Zad.l2 k x3 (x4.set (x6 : Int).toNat true) true x6 e g h i j (wrap64 (l + 1)) a b c d)) else (none)) else (none)) else (Zad.l2 k x3 x4 x5 x6 e g h i j (wrap64 (l + 1)) a b c d)) else (none)) else (none))
def Zad.l3 : Nat → List Bool → List Bool → Int → Int → Option (List Bool)
 | 0, _, _, _, _ => none
 | k + 1, x3, x4, b, a => if a < b then (if 0 ≤ a then (if a < (x3.length : Int) then (if rdOf false x3 a = true then (if a < (x4.length : Int) then (Zad.l3 k (x3.set (a : Int).toNat (rdOf false x4 a)) x4 b (wrap64 (a + 1))) else (none)) else (Zad.l3 k (x3.set (a : Int).toNat false) x4 b (wrap64 (a + 1)))) else (none)) else (none)) else (some x3)
end
def Zad.f (k : Nat) (e : Int) (a : Int) (c : List Bool) (b : List (List Int)) : Option (List Bool) := if 0 ≤ (b.length : Int) then (if ((b.length : Int) : Int).toNat ≤ 281474976710656 then ((some (List.replicate ((b.length : Int) : Int).toNat false : List Bool)).bind fun d => ((Zb0.f c).bind fun g => (if 0 ≤ a then (if a < (d.length : Int) then (Zad.l0 k (d.set (a : Int).toNat true) g true e a c b) else (none)) else (none)))) else (none)) else (none)
def Zad.T1 : Bool × List (List Nat × List Nat) := (true, [([], []), ([0], [0]), ([1], [1]), ([2, 2], [2]), ([], []), ([4], [4]), ([5], [5]), ([3, 6, 0, 1, 2, 3], [3]), ([6, 7, 0, 1, 2, 3, 4, 5, 6, 7], [6])])
def Zad.B1 : List Nat := [0, 1, 3, 7, 0, 16, 48, 127, 255]
theorem Zad.tab1 : rtab .any (opsOf Tryd.f50 1) = Zad.T1 := by kernel_rfl
theorem Zad.bits1 : waitsOk Zad.T1.2 Zad.B1 = true := by kernel_rfl
set_option maxHeartbeats 8000000 in
set_option maxRecDepth 100000 in
theorem Zad.calls (k : Nat) (G : Int) (A : Int) (I : Option Addr) (J : Nat) (B : List Bool) (Z : Option Addr) (M : Nat) (c : List (List Int)) (r : List Bool) (w : World) (bV : Kd.C Kd.bool w I B.length B) (bX : B.length ≤ J) (bY : Kd.C (Kd.slice 2 (Kd.int .i64)) w Z c.length c) (bZ : c.length ≤ M) (h : Zad.f k G A B c = some r) :
  Calls Tryd.prog 50 #[.agg #[.int .i64 G, .int .i64 A, .slice I B.length J, .slice Z c.length M]] w fun e w' => ∃ dD : Value, e = .returned (dD) ∧ Kd.R Kd.bool 4 w' w.heap.size (fun _ => True) dD r ∧ Below w.heap.size w w' := by
 have eK := Tryd.underlying66
 have b0 := mA bV
 have b1 := mA bX
 clear bV bX
 have da := mA bY
 have ew := mA bZ
 clear bY bZ
 have HB := mA (Below.refl w.heap.size w)
 unfold Zad.f at h
 have H := h
 clear h
 by_cases c2 : 0 ≤ (c.length : Int); rotate_left
 ·rw [if_neg c2] at H
  exact absurd H (by simp)
 rw [if_pos c2] at H
 have dQ := eq_true c2
 have dR := dT c2
 clear c2
 by_cases c3 : ((c.length : Int) : Int).toNat ≤ 281474976710656; rotate_left
 ·rw [if_neg c3] at H
  exact absurd H (by simp)
 rw [if_pos c3] at H
 have dS := eq_true c3
 have dU := dT c3
 clear c3
 obtain ⟨ao, bg⟩ : ∃ y_ : List Bool, y_ = (List.replicate ((c.length : Int) : Int).toNat false) := ⟨_, rfl⟩
 replace H := bsm bg H
 have aQ := mA bg
 clear bg
 obtain ⟨aX, A4, H⟩ := bA H
 obtain ⟨dV, H⟩ := gE H
 obtain ⟨dW, H⟩ := gE H
 obtain ⟨cB, b2⟩ := nm ((ao.set (A : Int).toNat true) : List Bool)
 rw [← b2.out] at H
 have H' := mA H
 clear H
 go_enter Tryd.func50, Tryd.ntmps50
 try go_wp2_with (first | ((with_reducible refine Zan (N := 1) rfl ?_); refine boxS (N := 1) (cs := #[.int .i64 G, .int .i64 A, .slice I B.length J, .slice Z c.length M]) (t := 66) ?_; intro u hg w8 hbox hb; have a := mA (hbox); have ex := geW (w := w) hg; have ey := geW (w := w) hg; replace HB := mA (Zac (bW) hb); clear hb hbox hg))
 replace a := mA (Zah a.out)
 replace HB := mA (Zbe HB.out)
 refine start_ (n := 9) (S := fun w' => w'.cell? ⟨u, 0, none⟩ = some (.int .i64 G) ∧ w'.cell? ⟨u, 1, none⟩ = some (.int .i64 A) ∧ w'.cell? ⟨u, 2, none⟩ = some (.slice I B.length J) ∧ w'.cell? ⟨u, 3, none⟩ = some (.slice Z c.length M)) (ds := []) #[false, false, false, false, false, false, false, false, false] (by kernel_rfl) rfl rfl ⟨bc a 0, bc a 1, bc a 2, bc a 3⟩ (fun hHeld => ?_); refine Zc6 Zad.tab1 Zad.bits1 (fun HT_ HW_ => ?_)
 generalize w8.drew = w9 at a HB hHeld ⊢
 refine Za6 (i := 0) (N := some 11) (Zau HT_.out (by kernel_rfl)) ?_
 refine Za6 (i := 4) (N := some 15) (Zau HT_.out (by kernel_rfl)) ?_
 refine takeS (i := 1) (N := some 12) (Zbw HT_.out HW_.out (by kernel_rfl)) hHeld ?_
 refine Za6 (i := 2) (N := some 13) (Zau HT_.out (by kernel_rfl)) ?_
 refine takeS (i := 5) (N := some 16) (Zbw HT_.out HW_.out (by kernel_rfl)) hHeld ?_
 refine join_ (σ := Value × Value) 2 #[true, true, true, true, true, true, true, false, false] (fun s_ => [(14, s_.1), (17, s_.2)]) (fun s_ w' => (w'.cell? ⟨u, 0, none⟩ = some (.int .i64 G) ∧ w'.cell? ⟨u, 1, none⟩ = some (.int .i64 A) ∧ w'.cell? ⟨u, 2, none⟩ = some (.slice I B.length J) ∧ w'.cell? ⟨u, 3, none⟩ = some (.slice Z c.length M)) ∧ (Kd.R Kd.bool 4 w' w.heap.size (fun k_ => some k_ ≠ (s_.2 : Value).ownBlock) s_.1 ao) ∧ (Kd.R Kd.bool 4 w' w.heap.size (fun k_ => some k_ ≠ (s_.1 : Value).ownBlock) s_.2 aX) ∧ (w'.heap[u]? = some (.cells #[.int .i64 G, .int .i64 A, .slice I B.length J, .slice Z c.length M] 66 (0, 0))) ∧ (Below w.heap.size w w')) ?_ ?_
 rotate_left
 ·intro hCont
  refine two_ (i := 3) (j := 6) (Ni := some 14) (Nj := some 17) #[true, true, true, true, true, true, false, false, false] #[true, true, true, false, true, true, true, false, false] rfl rfl rfl rfl (two_of HT_.out (by kernel_rfl)) (by decide) (by decide) (fun K hK => ?_) (fun K hK => ?_)
  ·skip
   refine Kd.R_make_step Kd.bool _ 4 (by rfl) (N := 14) rfl 59 _ _ rfl (c.length : Int) rfl rfl Tryd.underlying59 (.bool false) 1 info4 rfl (by decide) (by omega) false (ok := fun _ => True) (okp := fun _ => True) rfl (fun _ hk => hk) trivial (ofD) (Nat.le_trans (Nat.mul_le_mul_right _ (ofD : (c.length : Int).toNat ≤ 281474976710656)) (by omega)) (Below.refl _ _) (Nat.le_refl _) ?_
   intro aM ej aY hb hg_ hnew_
   clear hg_ hnew_
   (first | rw [← aQ.out] at aY | (simp only [Int.reduceToNat] at aY; rw [← aQ.out] at aY))
   have U := mA (zQ aY (Zao (bW)))
   replace a := mA (blkB a.out hb)
   replace HB := mA (Zac (bW) hb)
   clear hb aY
   refine hK.out _ _ ⟨bc a 0, bc a 1, bc a 2, bc a 3⟩ (fun hHeld => ?_)
   clear hK K
   refine putS 14 ?_
   refine one_ (i := 6) (N := some 17) #[true, true, true, true, true, true, true, false, false] rfl rfl (Zcc HT_.out (by kernel_rfl)) (by decide) (fun K hK => ?_)
   refine goes_ Tryd.func87 (by kernel_rfl) rfl #[.slice I B.length J] (by rfl) rfl rfl (by (try simp only [List.map_toArray, List.map_cons, List.map_nil]); first | done | rfl | (simp only [List.length_drop, List.length_take]; rfl)) ?_
   with_reducible refine (Zb0.calls _ _ B aX _ ?side1 ?side2 A4.out).mono ?_
   (case side1 => exact cP (zC b0.out HB.out))
   (case side2 => exact b1.out)
   rintro e e3 ⟨P, rfl, a5, hb⟩
   refine ⟨_, rfl, ?_⟩
   have ae := mA (zQ (yM a5 (yF (rP U.out))) (Zao (bW)))
   replace U := mA (yL (rP U.out) (zY a5) hb)
   replace a := mA (blkB a.out hb)
   replace HB := mA (Zac (bW) hb)
   (try clear hb)
   (try clear hb2)
   (try clear hk)
   (try clear hi)
   (try clear a5)
   refine hK.out _ _ ⟨bc a 0, bc a 1, bc a 2, bc a 3⟩ (fun hHeld => ?_)
   clear hK K
   refine putS 17 ?_
   exact norm_ (by simp only [putAll, Act.put, List.setIfInBounds_toArray, List.set_cons_zero, List.set_cons_succ]) (hCont (aM, P) _ ⟨hHeld, (by (with_reducible repeat (first | apply zE | apply zD | apply zB)); exact zA U.out (fun _ hk => hk.2)), (by (with_reducible repeat (first | apply zE | apply zD | apply zB)); exact zA ae.out (fun _ hk => hk.2)), (bP a.out), (bW)⟩)
  skip
  refine goes_ Tryd.func87 (by kernel_rfl) rfl #[.slice I B.length J] (by rfl) rfl rfl (by (try simp only [List.map_toArray, List.map_cons, List.map_nil]); first | done | rfl | (simp only [List.length_drop, List.length_take]; rfl)) ?_
  with_reducible refine (Zb0.calls _ _ B aX _ ?side1 ?side2 A4.out).mono ?_
  (case side1 => exact cP (zC b0.out HB.out))
  (case side2 => exact b1.out)
  rintro e ej ⟨P, rfl, a5, hb⟩
  refine ⟨_, rfl, ?_⟩
  have ae := mA (zQ a5 (Zao (bW)))
  replace a := mA (blkB a.out hb)
  replace HB := mA (Zac (bW) hb)
  (try clear hb)
  (try clear hb2)
  (try clear hk)
  (try clear hi)
  (try clear a5)
  refine hK.out _ _ ⟨bc a 0, bc a 1, bc a 2, bc a 3⟩ (fun hHeld => ?_)
  clear hK K
  refine putS 17 ?_
  refine one_ (i := 3) (N := some 14) #[true, true, true, true, true, true, true, false, false] rfl rfl (Zcc HT_.out (by kernel_rfl)) (by decide) (fun K hK => ?_)
  refine Kd.R_make_step Kd.bool _ 4 (by rfl) (N := 14) rfl 59 _ _ rfl (c.length : Int) rfl rfl Tryd.underlying59 (.bool false) 1 info4 rfl (by decide) (by omega) false (ok := fun _ => True) (okp := fun _ => True) rfl (fun _ hk => hk) trivial (ofD) (Nat.le_trans (Nat.mul_le_mul_right _ (ofD : (c.length : Int).toNat ≤ 281474976710656)) (by omega)) (Below.refl _ _) (Nat.le_refl _) ?_
  intro aM e4 aN hb hg_ hnew_
  clear hg_ hnew_
  (first | rw [← aQ.out] at aN | (simp only [Int.reduceToNat] at aN; rw [← aQ.out] at aN))
  have U := mA (zQ (yM aN (yF (rP ae.out))) (Zao (bW)))
  replace ae := mA (yL (rP ae.out) (zY aN) hb)
  replace a := mA (blkB a.out hb)
  replace HB := mA (Zac (bW) hb)
  clear hb aN
  refine hK.out _ _ ⟨bc a 0, bc a 1, bc a 2, bc a 3⟩ (fun hHeld => ?_)
  clear hK K
  refine putS 14 ?_
  exact norm_ (by simp only [putAll, Act.put, List.setIfInBounds_toArray, List.set_cons_zero, List.set_cons_succ]) (hCont (aM, P) _ ⟨hHeld, (by (with_reducible repeat (first | apply zE | apply zD | apply zB)); exact zA U.out (fun _ hk => hk.2)), (by (with_reducible repeat (first | apply zE | apply zD | apply zB)); exact zA ae.out (fun _ hk => hk.2)), (bP a.out), (bW)⟩)
 rintro ⟨aM, P⟩ w13 ⟨hS_, dE, dG, dH, dI⟩
 have dJ : Zab (Kd.R Kd.bool 4 w13 w.heap.size (fun k_ => some k_ ≠ (P : Value).ownBlock) aM ao) := ⟨dE⟩
 have dK : Zab (Kd.R Kd.bool 4 w13 w.heap.size (fun k_ => some k_ ≠ (aM : Value).ownBlock) P aX) := ⟨dG⟩
 have dL : Zab (w13.heap[u]? = some (.cells #[.int .i64 G, .int .i64 A, .slice I B.length J, .slice Z c.length M] 66 (0, 0))) := ⟨dH⟩
 have dM : Zab (Below w.heap.size w w13) := ⟨dI⟩
 clear a HB dE dG dH dI; have U := dJ; have ae := dK; have a := dL; have HB := dM; clear dJ dK dL dM
 have hHeld : w13.cell? ⟨u, 0, none⟩ = some (.int .i64 G) ∧ w13.cell? ⟨u, 1, none⟩ = some (.int .i64 A) ∧ w13.cell? ⟨u, 2, none⟩ = some (.slice I B.length J) ∧ w13.cell? ⟨u, 3, none⟩ = some (.slice Z c.length M) := hS_
 refine norm_ (a' := ?_) ?_ ?_
 rotate_left
 ·simp only [putAll, Act.put, List.setIfInBounds_toArray, List.set_cons_zero, List.set_cons_succ]
  rfl
 refine Za6 (i := 7) (N := some 3) (Zau HT_.out (by kernel_rfl)) ?_
 refine Za6 (i := 8) (N := some 4) (Zau HT_.out (by kernel_rfl)) ?_
 refine done_ (done_of HT_.out (by kernel_rfl)) ?_
 have cj : w13.cell? ⟨u, 0, none⟩ = some (.int .i64 G) := bc a 0
 have ck : w13.cell? ⟨u, 1, none⟩ = some (.int .i64 A) := bc a 1
 have cl : w13.cell? ⟨u, 2, none⟩ = some (.slice I B.length J) := bc a 2
 have cm : w13.cell? ⟨u, 3, none⟩ = some (.slice Z c.length M) := bc a 3
 have cn := Zaa a.out 0
 have co := Zaa a.out 1
 have cp := Zaa a.out 2
 have cq := Zaa a.out 3
 have p7 : 0 ≤ (A : Int) := ofD
 have q7 : (A : Int) < ((ao.length : Int) : Int) := ofD
 obtain ⟨y, O, dN, dO, ek, e5, dP⟩ := yC U.out (by omega)
 (first | cases dN | (injection dN with ea_ en_ ec_; (first | subst ea_ | (injection ea_ with ea_; subst ea_)); subst ec_; clear en_))
 have a6 := mA dO
 have e6 := mA dP
 clear dO ek dP
 obtain ⟨db, ez⟩ := zI false U.out (A : Int) p7 q7
 replace p7 := eq_true p7
 replace q7 := eq_true q7
 obtain ⟨eA, eB⟩ := zI false U.out (A : Int) (ofD) (ofD)
 have bz := zS U.out (A : Int) true
 try go_wp2_with (first | ((with_reducible refine Zbp (t := 4) (p := 21) rfl ?_); refine storeS (t := 4) (p := 21) (w1 := (w13.setCell ⟨y, (A : Int).toNat, none⟩ (.bool true))) ?_; intro cC hw; have hg : w13.grownBy cC (some y) := (by rw [hw]; exact bz.2); have hp_ : Kd.R Kd.bool 4 cC w.heap.size (fun k_ => some k_ ≠ (P : Value).ownBlock) (.slice (some ⟨y, 0, none⟩) ao.length O) cB := (by rw [hw, b2.out]; exact bz.1); clear bz; replace a := mA (Zay (g := u) (o := .cells #[.int .i64 G, .int .i64 A, .slice I B.length J, .slice Z c.length M] 66 (0, 0)) (bP a.out) hg (zM U.out a.out (by decide))); replace U := mA (hp_); replace ae := mA (yA (v := (.slice (some ⟨y, 0, none⟩) ao.length O)) (v1 := (.slice (some ⟨y, 0, none⟩) ao.length O)) (ok := (fun _ => True)) (by (with_reducible repeat (first | apply zE | apply zD | apply zB)); exact zA ae.out (fun _ hk => ⟨trivial, hk⟩)) hg (.inl rfl)); replace HB := mA ((by rw [hw]; exact Zbs (HB.out) a6.out : Below w.heap.size w cC)); clear hg hw hp_))
 go_loopg [5] k (fun kq v5 w' => ∃ (ai : List Bool) (aj : List Bool) (bh : Bool), v5 = .bool bh ∧ Zab (Zad.l0 kq ai aj bh G A B c = some r) ∧ Zab (kq ≤ k) ∧ Zab (Kd.R Kd.bool 4 w' w.heap.size (fun k_ => some k_ ≠ (P : Value).ownBlock) (.slice (some ⟨y, 0, none⟩) ao.length O) ai) ∧ Zab (Kd.R Kd.bool 4 w' w.heap.size (fun k_ => some k_ ≠ ((.slice (some ⟨y, 0, none⟩) ao.length O) : Value).ownBlock) P aj) ∧ Zab (w'.heap[u]? = some (.cells #[.int .i64 G, .int .i64 A, (.slice I B.length J), (.slice Z c.length M)] 66 (0, 0))) ∧ Zab (Below w.heap.size w w'))
 case atStart => exact ⟨(cB), (aX), (true), (eW), H', ⟨Nat.le_refl _⟩, ⟨rP U.out⟩, ⟨by (with_reducible repeat (first | apply zE | apply zD | apply zB)); exact zA ae.out (fun _ hk => hk.2)⟩, ⟨bP a.out⟩, ⟨bW⟩⟩
 case round =>
  clear H' dQ dR dS dU dV dW p7 q7 cj ck cl cm cn co cp cq db
  obtain ⟨ai, aj, bh, rfl, HA, W, m, l, a, HB⟩ := hrel
  have E := (zF m.out).1
  rw [E] at m
  (try simp only [E])
  (try simp only [E] at l)
  cases gk with
  | zero => exact absurd HA.out (by simp [Zad.l0])
  | succ k1 =>
   have H := HA.out
   clear HA
   simp only [Zad.l0] at H
   by_cases b3 : bh = true; rotate_left
   ·replace b3 := Bool.eq_false_iff.mpr b3
    subst b3
    rw [iF] at H
    have H' := mA H
    clear H
    go_wp2
    go_loopg [71] k1 (fun kq v71 w' => ∃ (L : List Bool) (x : Int), v71 = .int .i64 x ∧ Zab (Zad.l3 kq L aj (ai.length : Int) x = some r) ∧ Zab (kq ≤ k1) ∧ Zab (Kd.R Kd.bool 4 w' w.heap.size (fun k_ => some k_ ≠ (P : Value).ownBlock) (.slice (some ⟨y, 0, none⟩) ai.length O) L) ∧ Zab (Kd.R Kd.bool 4 w' w.heap.size (fun k_ => some k_ ≠ ((.slice (some ⟨y, 0, none⟩) ai.length O) : Value).ownBlock) P aj) ∧ Zab (w'.heap[u]? = some (.cells #[.int .i64 G, .int .i64 A, (.slice I B.length J), (.slice Z c.length M)] 66 (0, 0))) ∧ Zab (Below w.heap.size w w'))
    case atStart => exact ⟨(ai), (0), (eW), H', ⟨Nat.le_refl _⟩, ⟨by exact rP m.out⟩, ⟨by exact rP l.out⟩, ⟨by exact bP a.out⟩, ⟨bW⟩⟩
    case round =>
     clear H'
     obtain ⟨L, x, rfl, HA, T, m, l, a, HB⟩ := hrel
     have s := (zF m.out).1
     rw [s] at m
     (try simp only [s])
     (try simp only [s] at l)
     cases gk with
     | zero => exact absurd HA.out (by simp [Zad.l3])
     | succ k2 =>
      have H := HA.out
      clear HA
      simp only [Zad.l3] at H
      by_cases a7 : x < (ai.length : Int); rotate_left
      ·rw [if_neg a7] at H
       have bi := dF a7
       (try (have bj := bi; simp only [E, s] at bj))
       clear a7
       obtain rfl := oI H
       go_wp2
       go_ret
       exact ⟨_, eW, by (with_reducible repeat (first | apply zE | apply zD | apply zB)); exact zA m.out (fun _ hk => trivial), bW⟩
      rw [if_pos a7] at H
      have bi := dT a7
      (try (have bj := bi; simp only [E, s] at bj))
      clear a7
      obtain ⟨eC, H⟩ := gE H
      obtain ⟨dc, H⟩ := gE H
      (try (have dd := dc; simp only [E, s] at dd))
      obtain ⟨dX, aR⟩ := nm (rdOf false L x)
      rw [← aR.out] at H
      by_cases b4 : dX = true; rotate_left
      ·replace b4 := Bool.eq_false_iff.mpr b4
       subst b4
       rw [iF] at H
       obtain ⟨cD, b5⟩ := nm ((L.set (x : Int).toNat false) : List Bool)
       rw [← b5.out] at H
       have H' := mA H
       clear H
       have aB : 0 ≤ (x : Int) := ofD
       have aC : x < (L.length : Int) := ofD
       obtain ⟨bk, bB, X⟩ := zP (zF m.out).2.2 x aB aC
       (try rw [← aR.out] at X)
       obtain rfl : (⟨y, 0, none⟩ : Addr) = bk := (by injection bB)
       (first | simp only [Zb1] at X | simp only [add_at] at X | simp only [Addr.add, Nat.zero_add] at X | skip)
       replace aB := eq_true aB
       replace aC := eq_true aC
       have cE : 0 ≤ (x : Int) := ofD
       have cF : (x : Int) < ((L.length : Int) : Int) := ofD
       obtain ⟨el, em⟩ := zI false m.out (x : Int) cE cF
       replace cE := eq_true cE
       replace cF := eq_true cF
       have bC := zS m.out (x : Int) false
       go_wp2_with (first | ((with_reducible refine Zbp (t := 4) (p := 86) rfl ?_); refine storeS (t := 4) (p := 86) (w1 := (wr.setCell ⟨y, (x : Int).toNat, none⟩ (.bool false))) ?_; intro cG hw; have hg : wr.grownBy cG (some y) := (by rw [hw]; exact bC.2); have hp_ : Kd.R Kd.bool 4 cG w.heap.size (fun k_ => some k_ ≠ (P : Value).ownBlock) (.slice (some ⟨y, 0, none⟩) L.length O) cD := (by rw [hw, b5.out]; exact bC.1); clear bC; replace l := mA (yA (v := (.slice (some ⟨y, 0, none⟩) L.length O)) (v1 := (.slice (some ⟨y, 0, none⟩) L.length O)) (ok := (fun _ => True)) (by (with_reducible repeat (first | apply zE | apply zD | apply zB)); exact zA l.out (fun _ hk => ⟨trivial, hk⟩)) hg (.inl rfl)); replace a := mA (Zay (g := u) (o := .cells #[.int .i64 G, .int .i64 A, .slice I B.length J, .slice Z c.length M] 66 (0, 0)) (bP a.out) hg (zM m.out a.out (by decide))); replace m := mA (hp_); replace HB := mA ((by rw [hw]; exact Zbs (HB.out) a6.out : Below w.heap.size w cG)); clear hg hw hp_))
       (try simp only [← s])
       go_roundg k2
       case measure => have := W.out; have := T.out; omega
       case rel => exact ⟨(cD), (wrap64 (x + 1)), (eW), H', ⟨by have := W.out; have := T.out; omega⟩, ⟨by (try simp only [s]); exact rP m.out⟩, ⟨by (try simp only [s]); (with_reducible repeat (first | apply zE | apply zD | apply zB)); exact zA l.out (fun _ hk => hk.2)⟩, ⟨by exact bP a.out⟩, ⟨bW⟩⟩
      subst b4
      rw [if_pos rfl] at H
      obtain ⟨de, H⟩ := gE H
      (try (have df := de; simp only [E, s] at df))
      obtain ⟨cH, b6⟩ := nm ((L.set (x : Int).toNat (rdOf false aj x)) : List Bool)
      rw [← b6.out] at H
      have H' := mA H
      clear H
      have aB : 0 ≤ (x : Int) := ofD
      have aC : x < (L.length : Int) := ofD
      obtain ⟨bk, bB, X⟩ := zP (zF m.out).2.2 x aB aC
      (try rw [← aR.out] at X)
      obtain rfl : (⟨y, 0, none⟩ : Addr) = bk := (by injection bB)
      (first | simp only [Zb1] at X | simp only [add_at] at X | simp only [Addr.add, Nat.zero_add] at X | skip)
      replace aB := eq_true aB
      replace aC := eq_true aC
      obtain ⟨eL, dY, dZ⟩ := zH l.out
      subst dZ
      have bD : 0 ≤ (x : Int) := ofD
      have bE : x < (aj.length : Int) := ofD
      obtain ⟨dg, d0, cr⟩ := zP (zF l.out).2.2 x bD bE
      (try rw [← aR.out] at cr)
      cases d0
      replace bD := eq_true bD
      replace bE := eq_true bE
      have cI : 0 ≤ (x : Int) := ofD
      have cJ : (x : Int) < ((L.length : Int) : Int) := ofD
      obtain ⟨en, eo⟩ := zI false m.out (x : Int) cI cJ
      replace cI := eq_true cI
      replace cJ := eq_true cJ
      have bF := zS m.out (x : Int) (rdOf false aj x)
      go_wp2_with (first | ((with_reducible refine Zbp (t := 4) (p := 86) rfl ?_); refine storeS (t := 4) (p := 86) (w1 := (wr.setCell ⟨y, (x : Int).toNat, none⟩ (.bool (rdOf false aj x)))) ?_; intro cK hw; have hg : wr.grownBy cK (some y) := (by rw [hw]; exact bF.2); have hp_ : Kd.R Kd.bool 4 cK w.heap.size (fun k_ => some k_ ≠ (.slice (some dg) aj.length dY : Value).ownBlock) (.slice (some ⟨y, 0, none⟩) L.length O) cH := (by rw [hw, b6.out]; exact bF.1); clear bF; replace l := mA (yA (v := (.slice (some ⟨y, 0, none⟩) L.length O)) (v1 := (.slice (some ⟨y, 0, none⟩) L.length O)) (ok := (fun _ => True)) (by (with_reducible repeat (first | apply zE | apply zD | apply zB)); exact zA l.out (fun _ hk => ⟨trivial, hk⟩)) hg (.inl rfl)); replace a := mA (Zay (g := u) (o := .cells #[.int .i64 G, .int .i64 A, .slice I B.length J, .slice Z c.length M] 66 (0, 0)) (bP a.out) hg (zM m.out a.out (by decide))); replace m := mA (hp_); replace HB := mA ((by rw [hw]; exact Zbs (HB.out) a6.out : Below w.heap.size w cK)); clear hg hw hp_))
      (try simp only [← s])
      go_roundg k2
      case measure => have := W.out; have := T.out; omega
      case rel => exact ⟨(cH), (wrap64 (x + 1)), (eW), H', ⟨by have := W.out; have := T.out; omega⟩, ⟨by (try simp only [s]); exact rP m.out⟩, ⟨by (try simp only [s]); (with_reducible repeat (first | apply zE | apply zD | apply zB)); exact zA l.out (fun _ hk => hk.2)⟩, ⟨by exact bP a.out⟩, ⟨bW⟩⟩
   subst b3
   rw [if_pos rfl] at H
   have H' := mA H
   clear H
   have ct : wr.cell? ⟨u, 0, none⟩ = some (.int .i64 G) := bc a 0
   have cu : wr.cell? ⟨u, 1, none⟩ = some (.int .i64 A) := bc a 1
   have cv : wr.cell? ⟨u, 2, none⟩ = some (.slice I B.length J) := bc a 2
   have cw : wr.cell? ⟨u, 3, none⟩ = some (.slice Z c.length M) := bc a 3
   have cx := Zaa a.out 0
   have cy := Zaa a.out 1
   have cz := Zaa a.out 2
   have cA := Zaa a.out 3
   go_wp2
   go_loopg [5, 26] k1 (fun kq v5 v26 w' => ∃ (L : List Bool) (aZ : List Bool) (a0 : Bool) (b : Int), v5 = .bool a0 ∧ v26 = .int .i64 b ∧ Zab (Zad.l1 kq L aZ a0 c (c.length : Int) b G A B c = some r) ∧ Zab (kq ≤ k1) ∧ Zab (Kd.R Kd.bool 4 w' w.heap.size (fun k_ => some k_ ≠ (P : Value).ownBlock) (.slice (some ⟨y, 0, none⟩) ai.length O) L) ∧ Zab (Kd.R Kd.bool 4 w' w.heap.size (fun k_ => some k_ ≠ ((.slice (some ⟨y, 0, none⟩) ai.length O) : Value).ownBlock) P aZ) ∧ Zab (w'.heap[u]? = some (.cells #[.int .i64 G, .int .i64 A, (.slice I B.length J), (.slice Z c.length M)] 66 (0, 0))) ∧ Zab (Below w.heap.size w w'))
   case atStart => exact ⟨(ai), (aj), (false), (0), (eW), (eW), H', ⟨Nat.le_refl _⟩, ⟨by exact rP m.out⟩, ⟨by exact rP l.out⟩, ⟨by exact bP a.out⟩, ⟨bW⟩⟩
   case round =>
    clear H' ct cu cv cw cx cy cz cA
    obtain ⟨L, aZ, a0, b, rfl, rfl, HA, T, m, l, a, HB⟩ := hrel
    have s := (zF m.out).1
    rw [s] at m
    (try simp only [s])
    (try simp only [s] at l)
    cases gk with
    | zero => exact absurd HA.out (by simp [Zad.l1])
    | succ k2 =>
     have H := HA.out
     clear HA
     simp only [Zad.l1] at H
     by_cases a8 : b < (c.length : Int); rotate_left
     ·rw [if_neg a8] at H
      have aS := dF a8
      (try (have bl := aS; simp only [E, s] at bl))
      clear a8
      have H' := mA H
      clear H
      go_wp2
      (try simp only [← E, ← s])
      go_roundg k2
      case measure => have := W.out; have := T.out; omega
      case rel => exact ⟨(L), (aZ), (a0), (eW), H', ⟨by have := W.out; have := T.out; omega⟩, ⟨by (try simp only [E]); (try simp only [s]); exact rP m.out⟩, ⟨by (try simp only [E]); (try simp only [s]); exact rP l.out⟩, ⟨by exact bP a.out⟩, ⟨bW⟩⟩
     rw [if_pos a8] at H
     have aS := dT a8
     (try (have bl := aS; simp only [E, s] at bl))
     clear a8
     obtain ⟨dh, H⟩ := gE H
     obtain ⟨b7, H⟩ := gE H
     (try (have di := b7; simp only [E, s] at di))
     have H' := mA H
     clear H
     have bm : 0 ≤ (b : Int) := ofD
     have bn : b < (c.length : Int) := ofD
     obtain ⟨ap, ep, er, d1, ax, a9, ba⟩ := at_L1 da.out b bm bn
     cases d1
     replace ax := (HB.out.cell (wB w ax)).trans ax
     have bb := mA ba
     have ei := mA a9
     clear ba a9
     replace bm := eq_true bm
     replace bn := eq_true bn
     go_wp2
     go_loopg [5, 33] k2 (fun kq v5 v33 w' => ∃ (D : List Bool) (z : List Bool) (aq : Bool) (d : Int), v5 = .bool aq ∧ v33 = .int .i64 d ∧ Zab (Zad.l2 kq D z aq b c (c.length : Int) b (Zae c b) ((Zae c b).length : Int) d G A B c = some r) ∧ Zab (kq ≤ k2) ∧ Zab (Kd.R Kd.bool 4 w' w.heap.size (fun k_ => some k_ ≠ (P : Value).ownBlock) (.slice (some ⟨y, 0, none⟩) L.length O) D) ∧ Zab (Kd.R Kd.bool 4 w' w.heap.size (fun k_ => some k_ ≠ ((.slice (some ⟨y, 0, none⟩) L.length O) : Value).ownBlock) P z) ∧ Zab (w'.heap[u]? = some (.cells #[.int .i64 G, .int .i64 A, (.slice I B.length J), (.slice (some ap) c.length M)] 66 (0, 0))) ∧ Zab (Below w.heap.size w w'))
     case atStart => exact ⟨(L), (aZ), (a0), (0), (eW), (eW), H', ⟨Nat.le_refl _⟩, ⟨by exact rP m.out⟩, ⟨by exact rP l.out⟩, ⟨by exact bP a.out⟩, ⟨bW⟩⟩
     case round =>
      clear H' aS dh b7 ax bm bn
      obtain ⟨D, z, aq, d, rfl, rfl, HA, ad, m, l, a, HB⟩ := hrel
      have q := (zF m.out).1
      rw [q] at m
      (try simp only [q])
      (try simp only [q] at l)
      cases gk with
      | zero => exact absurd HA.out (by simp [Zad.l2])
      | succ k3 =>
       have H := HA.out
       clear HA
       simp only [Zad.l2] at H
       by_cases bd : d < ((Zae c b).length : Int); rotate_left
       ·rw [if_neg bd] at H
        have aT := dF bd
        (try (have bo := aT; simp only [E, s, q] at bo))
        clear bd
        have H' := mA H
        clear H
        go_wp2
        (try simp only [← s, ← q])
        go_roundg k3
        case measure => have := W.out; have := T.out; have := ad.out; omega
        case rel => exact ⟨(D), (z), (aq), (wrap64 (b + 1)), (eW), (eW), H', ⟨by have := W.out; have := T.out; have := ad.out; omega⟩, ⟨by (try simp only [s]); (try simp only [q]); exact rP m.out⟩, ⟨by (try simp only [s]); (try simp only [q]); exact rP l.out⟩, ⟨by exact bP a.out⟩, ⟨bW⟩⟩
       rw [if_pos bd] at H
       have aT := dT bd
       (try (have bo := aT; simp only [E, s, q] at bo))
       clear bd
       obtain ⟨dj, H⟩ := gE H
       obtain ⟨b8, H⟩ := gE H
       (try (have dk := b8; simp only [E, s, q] at dk))
       by_cases bf : (rd (Zae c b) d) < 0
       ·rw [if_pos bf] at H
        have b9 := dT bf
        clear bf
        have H' := mA H
        clear H
        have ar : 0 ≤ (d : Int) := ofD
        have au : d < ((Zae c b).length : Int) := ofD
        obtain ⟨dl, bG, aa⟩ := zK bb.out d ar au
        cases bG
        replace aa := (HB.out.cell (wB w aa)).trans aa
        replace ar := eq_true ar
        replace au := eq_true au
        go_wp2
        (try simp only [← q])
        go_roundg k3
        case measure => have := W.out; have := T.out; have := ad.out; omega
        case rel => exact ⟨(D), (z), (aq), (wrap64 (d + 1)), (eW), (eW), H', ⟨by have := W.out; have := T.out; have := ad.out; omega⟩, ⟨by (try simp only [q]); exact rP m.out⟩, ⟨by (try simp only [q]); exact rP l.out⟩, ⟨by exact bP a.out⟩, ⟨bW⟩⟩
       rw [if_neg bf] at H
       have b9 := dF bf
       clear bf
       have bH := mA H
       clear H
       have ar : 0 ≤ (d : Int) := ofD
       have au : d < ((Zae c b).length : Int) := ofD
       obtain ⟨dl, bG, aa⟩ := zK bb.out d ar au
       cases bG
       replace aa := (HB.out.cell (wB w aa)).trans aa
       replace ar := eq_true ar
       replace au := eq_true au
       go_upto_region 13 with (fail)
       go_cut [49] (fun v49 wc => ∃ (kq : Nat) (aJ : Bool), v49 = .bool aJ ∧ Zab (Zad.j3 kq D z aq b (rd (Zae c b) d) c (c.length : Int) b (Zae c b) ((Zae c b).length : Int) d aJ G A B c = some r) ∧ Zab (kq ≤ k3) ∧ Zab (Kd.R Kd.bool 4 wc w.heap.size (fun k_ => some k_ ≠ (P : Value).ownBlock) (.slice (some ⟨y, 0, none⟩) D.length O) D) ∧ Zab (Kd.R Kd.bool 4 wc w.heap.size (fun k_ => some k_ ≠ ((.slice (some ⟨y, 0, none⟩) D.length O) : Value).ownBlock) P z) ∧ Zab (wc.heap[u]? = some (.cells #[.int .i64 G, .int .i64 A, (.slice I B.length J), (.slice (some ap) c.length M)] 66 (0, 0))) ∧ Zab (Below w.heap.size w wc))
       case first =>
        have H := bH.out
        clear bH
        obtain ⟨ca, H⟩ := gE H
        (first | rw [ca] | (simp only [Zci, i32_w]; rw [ca]) | skip)
        obtain ⟨dm, H⟩ := gE H
        (try (have dn := dm; simp only [E, s, q] at dn))
        obtain ⟨d2, aU⟩ := nm (rdOf false D b)
        rw [← aU.out] at H
        by_cases cb : d2 = true; rotate_left
        ·replace cb := Bool.eq_false_iff.mpr cb
         subst cb
         rw [iF] at H
         have H' := mA H
         clear H
         have aD : 0 ≤ (b : Int) := ofD
         have aE : b < (D.length : Int) := ofD
         obtain ⟨bp, bI, Y⟩ := zP (zF m.out).2.2 b aD aE
         (try rw [← aU.out] at Y)
         obtain rfl : (⟨y, 0, none⟩ : Addr) = bp := (by injection bI)
         (first | simp only [Zb1] at Y | simp only [add_at] at Y | simp only [Addr.add, Nat.zero_add] at Y | skip)
         replace aD := eq_true aD
         replace aE := eq_true aE
         go_wp2
         go_meet
         case rel => exact ⟨_, (false), (eW), H', ⟨by have := W.out; have := T.out; have := ad.out; first | omega | exact Nat.le_refl _⟩, ⟨by exact rP m.out⟩, ⟨by exact rP l.out⟩, ⟨by exact bP a.out⟩, ⟨bW⟩⟩
        subst cb
        rw [if_pos rfl] at H
        obtain ⟨eD, H⟩ := gE H
        obtain ⟨dp, H⟩ := gE H
        (try (have dq := dp; simp only [E, s, q] at dq))
        have H' := mA H
        clear H
        have aD : 0 ≤ (b : Int) := ofD
        have aE : b < (D.length : Int) := ofD
        obtain ⟨bp, bI, Y⟩ := zP (zF m.out).2.2 b aD aE
        (try rw [← aU.out] at Y)
        obtain rfl : (⟨y, 0, none⟩ : Addr) = bp := (by injection bI)
        (first | simp only [Zb1] at Y | simp only [add_at] at Y | simp only [Addr.add, Nat.zero_add] at Y | skip)
        replace aD := eq_true aD
        replace aE := eq_true aE
        have bJ : 0 ≤ ((rd (Zae c b) d) : Int) := ofD
        have bK : (rd (Zae c b) d) < (D.length : Int) := ofD
        obtain ⟨dr, d3, ay⟩ := zP (zF m.out).2.2 (rd (Zae c b) d) bJ bK
        (try rw [← aU.out] at ay)
        obtain rfl : (⟨y, 0, none⟩ : Addr) = dr := (by injection d3)
        (first | simp only [Zb1] at ay | simp only [add_at] at ay | simp only [Addr.add, Nat.zero_add] at ay | skip)
        replace bJ := eq_true bJ
        replace bK := eq_true bK
        go_wp2
        go_meet
        case rel => exact ⟨_, (!(rdOf false D (rd (Zae c b) d))), (eW), H', ⟨by have := W.out; have := T.out; have := ad.out; first | omega | exact Nat.le_refl _⟩, ⟨by exact rP m.out⟩, ⟨by exact rP l.out⟩, ⟨by exact bP a.out⟩, ⟨bW⟩⟩
       case rest =>
        clear bH aT dj b8 b9 aa ar au
        obtain ⟨kq, aJ, rfl, HA, af, m, l, a, HB⟩ := hcut
        cases kq with
        | zero => exact absurd HA.out (by simp [Zad.j3])
        | succ aO =>
         have H := HA.out
         clear HA
         simp only [Zad.j3] at H
         by_cases cc : aJ = true; rotate_left
         ·replace cc := Bool.eq_false_iff.mpr cc
          subst cc
          rw [iF] at H
          obtain ⟨eE, H⟩ := gE H
          obtain ⟨dt, H⟩ := gE H
          (try (have du := dt; simp only [E, s, q] at du))
          obtain ⟨d4, az⟩ := nm (rdOf false z (rd (Zae c b) d))
          rw [← az.out] at H
          by_cases cd : d4 = true; rotate_left
          ·replace cd := Bool.eq_false_iff.mpr cd
           subst cd
           rw [iF] at H
           have H' := mA H
           clear H
           obtain ⟨eM, eN, d5⟩ := zH l.out
           subst d5
           have ak : 0 ≤ ((rd (Zae c b) d) : Int) := ofD
           have al : (rd (Zae c b) d) < (z.length : Int) := ofD
           obtain ⟨aV, a1, ab⟩ := zP (zF l.out).2.2 (rd (Zae c b) d) ak al
           (try rw [← az.out] at ab)
           cases a1
           replace ak := eq_true ak
           replace al := eq_true al
           go_wp2
           (try simp only [← q])
           go_roundg aO
           case measure => have := W.out; have := T.out; have := ad.out; have := af.out; omega
           case rel => exact ⟨(D), (z), (aq), (wrap64 (d + 1)), (eW), (eW), H', ⟨by have := W.out; have := T.out; have := ad.out; have := af.out; omega⟩, ⟨by (try simp only [q]); exact rP m.out⟩, ⟨by (try simp only [q]); exact rP l.out⟩, ⟨by exact bP a.out⟩, ⟨bW⟩⟩
          subst cd
          rw [if_pos rfl] at H
          obtain ⟨eF, H⟩ := gE H
          obtain ⟨dv, H⟩ := gE H
          (try (have dw := dv; simp only [E, s, q] at dw))
          obtain ⟨d6, aK⟩ := nm (rdOf false z b)
          rw [← aK.out] at H
          by_cases ce : d6 = true
          ·subst ce
           rw [if_pos rfl] at H
           have H' := mA H
           clear H
           obtain ⟨eO, eP, d7⟩ := zH l.out
           subst d7
           have ak : 0 ≤ ((rd (Zae c b) d) : Int) := ofD
           have al : (rd (Zae c b) d) < (z.length : Int) := ofD
           obtain ⟨aV, a1, ab⟩ := zP (zF l.out).2.2 (rd (Zae c b) d) ak al
           (try rw [← az.out] at ab)
           (try rw [← aK.out] at ab)
           cases a1
           replace ak := eq_true ak
           replace al := eq_true al
           have aF : 0 ≤ (b : Int) := ofD
           have aG : b < (z.length : Int) := ofD
           obtain ⟨bq, bL, ag⟩ := zP (zF l.out).2.2 b aF aG
           (try rw [← az.out] at ag)
           (try rw [← aK.out] at ag)
           obtain rfl : aV = bq := (by injection bL)
           replace aF := eq_true aF
           replace aG := eq_true aG
           go_wp2
           (try simp only [← q])
           go_roundg aO
           case measure => have := W.out; have := T.out; have := ad.out; have := af.out; omega
           case rel => exact ⟨(D), (z), (aq), (wrap64 (d + 1)), (eW), (eW), H', ⟨by have := W.out; have := T.out; have := ad.out; have := af.out; omega⟩, ⟨by (try simp only [q]); exact rP m.out⟩, ⟨by (try simp only [q]); exact rP l.out⟩, ⟨by exact bP a.out⟩, ⟨bW⟩⟩
          replace ce := Bool.eq_false_iff.mpr ce
          subst ce
          rw [iF] at H
          obtain ⟨cL, cf⟩ := nm ((z.set (b : Int).toNat true) : List Bool)
          rw [← cf.out] at H
          have H' := mA H
          clear H
          obtain ⟨eQ, bM, d8⟩ := zH l.out
          subst d8
          have ak : 0 ≤ ((rd (Zae c b) d) : Int) := ofD
          have al : (rd (Zae c b) d) < (z.length : Int) := ofD
          obtain ⟨aV, a1, ab⟩ := zP (zF l.out).2.2 (rd (Zae c b) d) ak al
          (try rw [← az.out] at ab)
          (try rw [← aK.out] at ab)
          cases a1
          replace ak := eq_true ak
          replace al := eq_true al
          have aF : 0 ≤ (b : Int) := ofD
          have aG : b < (z.length : Int) := ofD
          obtain ⟨bq, bL, ag⟩ := zP (zF l.out).2.2 b aF aG
          (try rw [← az.out] at ag)
          (try rw [← aK.out] at ag)
          obtain rfl : aV = bq := (by injection bL)
          replace aF := eq_true aF
          replace aG := eq_true aG
          have cM : 0 ≤ (b : Int) := ofD
          have cN : (b : Int) < ((z.length : Int) : Int) := ofD
          obtain ⟨a2, eR, cO, cQ, d9, eS, cR⟩ := yC l.out (by omega)
          (first | cases cO | (injection cO with ea_ en_ ec_; (first | subst ea_ | (injection ea_ with ea_; subst ea_)); subst ec_; clear en_))
          have ea := mA cQ
          have eT := mA cR
          clear cQ d9 cR
          (first | simp only [Zb1] at ab | skip)
          (first | simp only [Zb1] at ag | skip)
          obtain ⟨es, et⟩ := zI false l.out (b : Int) cM cN
          replace cM := eq_true cM
          replace cN := eq_true cN
          have bN := zS l.out (b : Int) true
          go_wp2_with (first | ((with_reducible refine Zbp (t := 4) (p := 66) rfl ?_); refine storeS (t := 4) (p := 66) (w1 := (wc.setCell ⟨a2, (b : Int).toNat, none⟩ (.bool true))) ?_; intro cS hw; have hg : wc.grownBy cS (some a2) := (by rw [hw]; exact bN.2); have hp_ : Kd.R Kd.bool 4 cS w.heap.size (fun k_ => some k_ ≠ (.slice (some ⟨y, 0, none⟩) D.length O : Value).ownBlock) (.slice (some ⟨a2, 0, none⟩) z.length bM) cL := (by rw [hw, cf.out]; exact bN.1); clear bN; replace m := mA (yA (v := (.slice (some ⟨a2, 0, none⟩) z.length bM)) (v1 := (.slice (some ⟨a2, 0, none⟩) z.length bM)) (ok := (fun _ => True)) (by (with_reducible repeat (first | apply zE | apply zD | apply zB)); exact zA m.out (fun _ hk => ⟨trivial, hk⟩)) hg (.inl rfl)); replace a := mA (Zay (g := u) (o := .cells #[.int .i64 G, .int .i64 A, .slice I B.length J, .slice (some ap) c.length M] 66 (0, 0)) (bP a.out) hg (zM l.out a.out (by decide))); replace l := mA (hp_); replace HB := mA ((by rw [hw]; exact Zbs (HB.out) ea.out : Below w.heap.size w cS)); clear hg hw hp_))
          (try simp only [← q])
          go_roundg aO
          case measure => have := W.out; have := T.out; have := ad.out; have := af.out; omega
          case rel => exact ⟨(D), (cL), (true), (wrap64 (d + 1)), (eW), (eW), H', ⟨by have := W.out; have := T.out; have := ad.out; have := af.out; omega⟩, ⟨by (try simp only [q]); (with_reducible repeat (first | apply zE | apply zD | apply zB)); exact zA m.out (fun _ hk => hk.2)⟩, ⟨by (try simp only [q]); exact rP l.out⟩, ⟨by exact bP a.out⟩, ⟨bW⟩⟩
         subst cc
         rw [if_pos rfl] at H
         obtain ⟨eG, H⟩ := gE H
         obtain ⟨dx, H⟩ := gE H
         (try (have dy := dx; simp only [E, s, q] at dy))
         obtain ⟨aP, br⟩ : ∃ y_ : List Bool, y_ = (D.set ((rd (Zae c b) d) : Int).toNat true) := ⟨_, rfl⟩
         replace H := bsm br H
         have bs := mA br
         clear br
         obtain ⟨dz, H⟩ := gE H
         (try (have dA := dz; simp only [E, s, q] at dA))
         obtain ⟨eb, aA⟩ := nm (rdOf false z (rd (Zae c b) d))
         rw [← aA.out] at H
         by_cases cg : eb = true; rotate_left
         ·replace cg := Bool.eq_false_iff.mpr cg
          subst cg
          rw [iF] at H
          have H' := mA H
          clear H
          have av : 0 ≤ ((rd (Zae c b) d) : Int) := ofD
          have aw : ((rd (Zae c b) d) : Int) < ((D.length : Int) : Int) := ofD
          obtain ⟨bv, bw⟩ := zI false m.out ((rd (Zae c b) d) : Int) av aw
          replace av := eq_true av
          replace aw := eq_true aw
          have bO := zS m.out ((rd (Zae c b) d) : Int) true
          go_wp2_with (first | ((with_reducible refine Zbp (t := 4) (p := 52) rfl ?_); refine Zc8 (t := 4) (p := 52) (v := ?vo_w54) (w1 := (wc.setCell ⟨y, ((rd (Zae c b) d) : Int).toNat, none⟩ (.bool true))) ?hg ?ho ?hn ?hr ?_; (case ho => rfl); (case hg => rfl); (case hn => rfl); (case hr => first | (go_simp; done) | (go_simp; rfl)); intro cT hw; have hg : wc.grownBy cT (some y) := (by rw [hw]; exact bO.2); have hp_ : Kd.R Kd.bool 4 cT w.heap.size (fun k_ => some k_ ≠ (P : Value).ownBlock) (.slice (some ⟨y, 0, none⟩) D.length O) aP := (by rw [hw, bs.out]; exact bO.1); clear bO; replace l := mA (yA (v := (.slice (some ⟨y, 0, none⟩) D.length O)) (v1 := (.slice (some ⟨y, 0, none⟩) D.length O)) (ok := (fun _ => True)) (by (with_reducible repeat (first | apply zE | apply zD | apply zB)); exact zA l.out (fun _ hk => ⟨trivial, hk⟩)) hg (.inl rfl)); replace a := mA (Zay (g := u) (o := .cells #[.int .i64 G, .int .i64 A, .slice I B.length J, .slice (some ap) c.length M] 66 (0, 0)) (bP a.out) hg (zM m.out a.out (by decide))); replace m := mA (hp_); replace HB := mA ((by rw [hw]; exact Zbs (HB.out) a6.out : Below w.heap.size w cT)); clear hg hw hp_; obtain ⟨eU, eV, ec⟩ := zH l.out; subst ec; have am : 0 ≤ ((rd (Zae c b) d) : Int) := ofD; have an : (rd (Zae c b) d) < (z.length : Int) := ofD; obtain ⟨aW, a3, ac⟩ := zP (zF l.out).2.2 (rd (Zae c b) d) am an; (try rw [← aA.out] at ac); cases a3; replace am := eq_true am; replace an := eq_true an))
          (try simp only [← q])
          go_roundg aO
          case measure => have := W.out; have := T.out; have := ad.out; have := af.out; omega
          case rel => exact ⟨(aP), (z), (true), (wrap64 (d + 1)), (eW), (eW), H', ⟨by have := W.out; have := T.out; have := ad.out; have := af.out; omega⟩, ⟨by (try simp only [q]); exact rP m.out⟩, ⟨by (try simp only [q]); (with_reducible repeat (first | apply zE | apply zD | apply zB)); exact zA l.out (fun _ hk => hk.2)⟩, ⟨by exact bP a.out⟩, ⟨bW⟩⟩
         subst cg
         rw [if_pos rfl] at H
         obtain ⟨eH, H⟩ := gE H
         obtain ⟨dB, H⟩ := gE H
         (try (have dC := dB; simp only [E, s, q] at dC))
         obtain ⟨ed, aL⟩ := nm (rdOf false z b)
         rw [← aL.out] at H
         by_cases ch : ed = true
         ·subst ch
          rw [if_pos rfl] at H
          have H' := mA H
          clear H
          have av : 0 ≤ ((rd (Zae c b) d) : Int) := ofD
          have aw : ((rd (Zae c b) d) : Int) < ((D.length : Int) : Int) := ofD
          obtain ⟨bv, bw⟩ := zI false m.out ((rd (Zae c b) d) : Int) av aw
          replace av := eq_true av
          replace aw := eq_true aw
          have bQ := zS m.out ((rd (Zae c b) d) : Int) true
          go_wp2_with (first | ((with_reducible refine Zbp (t := 4) (p := 52) rfl ?_); refine Zc8 (t := 4) (p := 52) (v := ?vo_w45) (w1 := (wc.setCell ⟨y, ((rd (Zae c b) d) : Int).toNat, none⟩ (.bool true))) ?hg ?ho ?hn ?hr ?_; (case ho => rfl); (case hg => rfl); (case hn => rfl); (case hr => first | (go_simp; done) | (go_simp; rfl)); intro cU hw; have hg : wc.grownBy cU (some y) := (by rw [hw]; exact bQ.2); have hp_ : Kd.R Kd.bool 4 cU w.heap.size (fun k_ => some k_ ≠ (P : Value).ownBlock) (.slice (some ⟨y, 0, none⟩) D.length O) aP := (by rw [hw, bs.out]; exact bQ.1); clear bQ; replace l := mA (yA (v := (.slice (some ⟨y, 0, none⟩) D.length O)) (v1 := (.slice (some ⟨y, 0, none⟩) D.length O)) (ok := (fun _ => True)) (by (with_reducible repeat (first | apply zE | apply zD | apply zB)); exact zA l.out (fun _ hk => ⟨trivial, hk⟩)) hg (.inl rfl)); replace a := mA (Zay (g := u) (o := .cells #[.int .i64 G, .int .i64 A, .slice I B.length J, .slice (some ap) c.length M] 66 (0, 0)) (bP a.out) hg (zM m.out a.out (by decide))); replace m := mA (hp_); replace HB := mA ((by rw [hw]; exact Zbs (HB.out) a6.out : Below w.heap.size w cU)); clear hg hw hp_; obtain ⟨eX, eY, ee⟩ := zH l.out; subst ee; have am : 0 ≤ ((rd (Zae c b) d) : Int) := ofD; have an : (rd (Zae c b) d) < (z.length : Int) := ofD; obtain ⟨aW, a3, ac⟩ := zP (zF l.out).2.2 (rd (Zae c b) d) am an; (try rw [← aA.out] at ac); (try rw [← aL.out] at ac); cases a3; replace am := eq_true am; replace an := eq_true an; have aH : 0 ≤ (b : Int) := ofD; have aI : b < (z.length : Int) := ofD; obtain ⟨bu, bR, ah⟩ := zP (zF l.out).2.2 b aH aI; (try rw [← aA.out] at ah); (try rw [← aL.out] at ah); obtain rfl : aW = bu := (by injection bR); replace aH := eq_true aH; replace aI := eq_true aI))
          (try simp only [← q])
          go_roundg aO
          case measure => have := W.out; have := T.out; have := ad.out; have := af.out; omega
          case rel => exact ⟨(aP), (z), (true), (wrap64 (d + 1)), (eW), (eW), H', ⟨by have := W.out; have := T.out; have := ad.out; have := af.out; omega⟩, ⟨by (try simp only [q]); exact rP m.out⟩, ⟨by (try simp only [q]); (with_reducible repeat (first | apply zE | apply zD | apply zB)); exact zA l.out (fun _ hk => hk.2)⟩, ⟨by exact bP a.out⟩, ⟨bW⟩⟩
         replace ch := Bool.eq_false_iff.mpr ch
         subst ch
         rw [iF] at H
         obtain ⟨cV, ci⟩ := nm ((z.set (b : Int).toNat true) : List Bool)
         rw [← ci.out] at H
         have H' := mA H
         clear H
         have av : 0 ≤ ((rd (Zae c b) d) : Int) := ofD
         have aw : ((rd (Zae c b) d) : Int) < ((D.length : Int) : Int) := ofD
         obtain ⟨bv, bw⟩ := zI false m.out ((rd (Zae c b) d) : Int) av aw
         replace av := eq_true av
         replace aw := eq_true aw
         have bS := zS m.out ((rd (Zae c b) d) : Int) true
         go_wp2_with (first | ((with_reducible refine Zbp (t := 4) (p := 52) rfl ?_); refine Zc8 (t := 4) (p := 52) (v := ?vo_w49) (w1 := (wc.setCell ⟨y, ((rd (Zae c b) d) : Int).toNat, none⟩ (.bool true))) ?hg ?ho ?hn ?hr ?_; (case ho => rfl); (case hg => rfl); (case hn => rfl); (case hr => first | (go_simp; done) | (go_simp; rfl)); intro bx hw; have hg : wc.grownBy bx (some y) := (by rw [hw]; exact bS.2); have hp_ : Kd.R Kd.bool 4 bx w.heap.size (fun k_ => some k_ ≠ (P : Value).ownBlock) (.slice (some ⟨y, 0, none⟩) D.length O) aP := (by rw [hw, bs.out]; exact bS.1); clear bS; replace l := mA (yA (v := (.slice (some ⟨y, 0, none⟩) D.length O)) (v1 := (.slice (some ⟨y, 0, none⟩) D.length O)) (ok := (fun _ => True)) (by (with_reducible repeat (first | apply zE | apply zD | apply zB)); exact zA l.out (fun _ hk => ⟨trivial, hk⟩)) hg (.inl rfl)); replace a := mA (Zay (g := u) (o := .cells #[.int .i64 G, .int .i64 A, .slice I B.length J, .slice (some ap) c.length M] 66 (0, 0)) (bP a.out) hg (zM m.out a.out (by decide))); replace m := mA (hp_); replace HB := mA ((by rw [hw]; exact Zbs (HB.out) a6.out : Below w.heap.size w bx)); clear hg hw hp_; obtain ⟨eZ, bT, ef⟩ := zH l.out; subst ef; have am : 0 ≤ ((rd (Zae c b) d) : Int) := ofD; have an : (rd (Zae c b) d) < (z.length : Int) := ofD; obtain ⟨aW, a3, ac⟩ := zP (zF l.out).2.2 (rd (Zae c b) d) am an; (try rw [← aA.out] at ac); (try rw [← aL.out] at ac); cases a3; replace am := eq_true am; replace an := eq_true an; have aH : 0 ≤ (b : Int) := ofD; have aI : b < (z.length : Int) := ofD; obtain ⟨bu, bR, ah⟩ := zP (zF l.out).2.2 b aH aI; (try rw [← aA.out] at ah); (try rw [← aL.out] at ah); obtain rfl : aW = bu := (by injection bR); replace aH := eq_true aH; replace aI := eq_true aI; have cW : 0 ≤ (b : Int) := ofD; have cX : (b : Int) < ((z.length : Int) : Int) := ofD; obtain ⟨a4, e0, cY, cZ, eg, e1, c0⟩ := yC l.out (by omega); (first | cases cY | (injection cY with ea_ en_ ec_; (first | subst ea_ | (injection ea_ with ea_; subst ea_)); subst ec_; clear en_)); have eh := mA cZ; have e2 := mA c0; clear cZ eg c0; (first | simp only [Zb1] at ac | skip); (first | simp only [Zb1] at ah | skip); obtain ⟨eu, ev⟩ := zI false l.out (b : Int) cW cX; replace cW := eq_true cW; replace cX := eq_true cX; have n_ := mA (zA (ok' := (fun k_ => some k_ ≠ (.slice (some ⟨y, 0, none⟩) D.length O : Value).ownBlock)) l.out (fun k_ hk => hk.2)); clear l; have l := n_; clear n_; obtain ⟨eI, eJ⟩ := zI false l.out (b : Int) (ofD) (ofD); have bU := zS l.out (b : Int) true) | ((with_reducible refine Zbp (t := 4) (p := 66) rfl ?_); refine storeS (t := 4) (p := 66) (w1 := (bx.setCell ⟨a4, (b : Int).toNat, none⟩ (.bool true))) ?_; intro c1 hw; have hg : bx.grownBy c1 (some a4) := (by rw [hw]; exact bU.2); have hp_ : Kd.R Kd.bool 4 c1 w.heap.size (fun k_ => some k_ ≠ (.slice (some ⟨y, 0, none⟩) D.length O : Value).ownBlock) (.slice (some ⟨a4, 0, none⟩) z.length bT) cV := (by rw [hw, ci.out]; exact bU.1); clear bU; replace m := mA (yA (v := (.slice (some ⟨a4, 0, none⟩) z.length bT)) (v1 := (.slice (some ⟨a4, 0, none⟩) z.length bT)) (ok := (fun _ => True)) (by (with_reducible repeat (first | apply zE | apply zD | apply zB)); exact zA m.out (fun _ hk => ⟨trivial, hk⟩)) hg (.inl rfl)); replace a := mA (Zay (g := u) (o := .cells #[.int .i64 G, .int .i64 A, .slice I B.length J, .slice (some ap) c.length M] 66 (0, 0)) (bP a.out) hg (zM l.out a.out (by decide))); replace l := mA (hp_); replace HB := mA ((by rw [hw]; exact Zbs (HB.out) eh.out : Below w.heap.size w c1)); clear hg hw hp_))
         (try simp only [← q])
         go_roundg aO
         case measure => have := W.out; have := T.out; have := ad.out; have := af.out; omega
         case rel => exact ⟨(aP), (cV), (true), (wrap64 (d + 1)), (eW), (eW), H', ⟨by have := W.out; have := T.out; have := ad.out; have := af.out; omega⟩, ⟨by (try simp only [q]); (with_reducible repeat (first | apply zE | apply zD | apply zB)); exact zA m.out (fun _ hk => hk.2)⟩, ⟨by (try simp only [q]); exact rP l.out⟩, ⟨by exact bP a.out⟩, ⟨bW⟩⟩
end Go.Proofs.YtlmicipfikammaaDoor.P
end
