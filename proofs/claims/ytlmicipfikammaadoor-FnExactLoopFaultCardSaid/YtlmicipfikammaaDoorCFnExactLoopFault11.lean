import Derived.Test.YtlmicipfikammaaDoorCFnExactLoopFault2
section
namespace Go.Proofs.YtlmicipfikammaaDoor.P
open Go.RowKit Go.Proofs.YtlmicipfikammaaDoor.Sh Go.Proofs.YtlmicipfikammaaDoorW.PrintWords Go.Proofs.YtlmicipfikammaaDoorW.PrintLast Go.Proofs.YtlmicipfikammaaDoorW.PrintMore
open Kd
attribute [local go_sem] Zb8 Zcb Zcm Zcl Zb4 Zb3 Zb7 Zcd   -- for this text's walks alone
set_option linter.unusedVariables false
set_option linter.unusedSimpArgs false
mutual
def Zaf.l0 : Nat → Int → List (S106) → List Bool → Int → Int → Int → List Bool → List (List Int) → List ((Int × Int) × Bool) → Option (List Bool)
 | 0, _, _, _, _, _, _, _, _, _ => none
 | k + 1, x1, x5, x7, x8, a, b, c, d, e => if x8 < (x5.length : Int) then (Zaf.l1 k x1 x5 x7 x8 a 0 a b c d e) else (some x7)
def Zaf.l1 : Nat → Int → List (S106) → List Bool → Int → Int → Int → Int → Int → List Bool → List (List Int) → List ((Int × Int) × Bool) → Option (List Bool)
 | 0, _, _, _, _, _, _, _, _, _, _, _ => none
 | k + 1, x1, x5, x7, x8, i, c, d, e, g, a, b => if c < i then (if 0 ≤ x8 then (if x8 < (x5.length : Int) then (if 0 ≤ ((Zam x5 x8).f0) then (if ((Zam x5 x8).f0) < (a.length : Int) then (if 0 ≤ c then (if c < ((Zae a ((Zam x5 x8).f0)).length : Int) then ((Zb5.f c).bind fun h => (if (rd (Zae a ((Zam x5 x8).f0)) c) < 0 then (Zaf.j2 k x1 x5 x7 x8 i c true d e g a b (rd (Zae a ((Zam x5 x8).f0)) c) (Go.bits .or .i64 ((Zam x5 x8).f1) h)) else (Zaf.j2 k x1 x5 x7 x8 i c (mget false b (rd (Zae a ((Zam x5 x8).f0)) c, Go.bits .or .i64 ((Zam x5 x8).f1) h)) d e g a b (rd (Zae a ((Zam x5 x8).f0)) c) (Go.bits .or .i64 ((Zam x5 x8).f1) h)))) else (none)) else (none)) else (none)) else (none)) else (none)) else (none)) else (Zaf.l0 k x1 x5 x7 (wrap64 (x8 + 1)) d e g a b)
def Zaf.j2 : Nat → Int → List (S106) → List Bool → Int → Int → Int → Bool → Int → Int → List Bool → List (List Int) → List ((Int × Int) × Bool) → Int → Int → Option (List Bool)
 | 0, _, _, _, _, _, _, _, _, _, _, _, _, _, _ => none
 | k + 1, x1, x5, x7, x8, i, j, m, c, d, e, g, h, b, a => if m = true then (Zaf.l1 k x1 x5 x7 x8 i (wrap64 (j + 1)) c d e g h) else (if x5.length < 8796093022208 then ((some (x5 ++ [(⟨b, a⟩ : S106)] : List (S106))).bind fun l => (if b = x1 then (if 0 ≤ a then (if a < (x7.length : Int) then (Zaf.l1 k x1 l (x7.set (a : Int).toNat true) x8 i (wrap64 (j + 1)) c d e g (mset h (b, a) true)) else (none)) else (none)) else (Zaf.l1 k x1 l x7 x8 i (wrap64 (j + 1)) c d e g (mset h (b, a) true)))) else (none))
end
def Zaf.f (k : Nat) (b : Int) (c : Int) (d : List Bool) (e : List (List Int)) (a1 : Int) : Option (List Bool) := (Zb5.f b).bind fun a => (if 0 ≤ a then (if (a : Int).toNat ≤ 281474976710656 then (Zaf.l0 k a1 (([(⟨a1, 0⟩ : S106)] : List (S106))) (List.replicate (a : Int).toNat false) 0 b c d e ([] : List ((Int × Int) × Bool))) else (none)) else (none))
def Zaf.T9 : Bool × List (List Nat × List Nat) := (true, [([], []), ([0], [0]), ([], []), ([], []), ([2, 3], [2, 3]), ([4], [4]), ([5], [5]), ([1, 6], [1, 6]), ([7], [7]), ([], []), ([8, 9], [8, 9]), ([10], [10]), ([], []), ([], []), ([12, 13], [12, 13]), ([14], [14]), ([15], [15]), ([], []), ([17], [17]), ([16, 18], [16, 18]), ([11, 19], [11, 19]), ([], []), ([21, 20, 18, 0, 1, 2, 3, 4, 5, 6, 7, 8, 9, 10, 11, 12, 13, 14, 15, 16, 17, 18, 19, 20, 21], [20, 21])])
def Zaf.B9 : List Nat := [0, 1, 0, 0, 12, 28, 60, 127, 255, 0, 1023, 2047, 0, 0, 12288, 28672, 61440, 0, 131072, 520192, 1048575, 0, 4194303]
theorem Zaf.tab9 : rtab .any (opsOf Tryd.f51 9) = Zaf.T9 := by kernel_rfl
theorem Zaf.bits9 : waitsOk Zaf.T9.2 Zaf.B9 = true := by kernel_rfl
set_option maxHeartbeats 8000000 in
set_option maxRecDepth 100000 in
theorem Zaf.calls (k : Nat) (O : Int) (X : Int) (aa : Option Addr) (ab : Nat) (W : List Bool) (aq : Option Addr) (ac : Nat) (q : List (List Int)) (a1 : Int) (r : List Bool) (w : World) (bh : Kd.C Kd.bool w aa W.length W) (bi : W.length ≤ ab) (bj : Kd.C (Kd.slice 2 (Kd.int .i64)) w aq q.length q) (bk : q.length ≤ ac) (h : Zaf.f k O X W q a1 = some r) :
  Calls Tryd.prog 51 #[.agg #[.int .i64 O, .int .i64 X, .slice aa W.length ab, .slice aq q.length ac], .int .i64 a1] w fun e w' => ∃ cd : Value, e = .returned (cd) ∧ Kd.R Kd.bool 4 w' w.heap.size (fun _ => True) cd r ∧ Below w.heap.size w w' := by
 have ep := Tryd.underlying66
 have dR := Tryd.underlying106
 have dS := mA bh
 have dU := mA bi
 clear bh bi
 have b2 := mA bj
 have dV := mA bk
 clear bj bk
 have HB := mA (Below.refl w.heap.size w)
 unfold Zaf.f at h
 have H := h
 clear h
 obtain ⟨cE, aT⟩ := nm ((([(⟨a1, 0⟩ : S106)] : List (S106))) : List (S106))
 rw [← aT.out] at H
 obtain ⟨ar, A3, H⟩ := bA H
 by_cases c4 : 0 ≤ ar; rotate_left
 ·rw [if_neg c4] at H
  exact absurd H (by simp)
 rw [if_pos c4] at H
 have cF := eq_true c4
 have cG := dT c4
 clear c4
 by_cases c5 : (ar : Int).toNat ≤ 281474976710656; rotate_left
 ·rw [if_neg c5] at H
  exact absurd H (by simp)
 rw [if_pos c5] at H
 have cH := eq_true c5
 have cI := dT c5
 clear c5
 obtain ⟨cJ, aU⟩ := nm ((List.replicate (ar : Int).toNat false) : List Bool)
 rw [← aU.out] at H
 have H' := mA H
 clear H
 go_enter Tryd.func51, Tryd.ntmps51
 go_wp2_with (first | ((with_reducible refine Zan (N := 2) rfl ?_); refine boxS (N := 2) (cs := #[.int .i64 O, .int .i64 X, .slice aa W.length ab, .slice aq q.length ac]) (t := 66) ?_; intro D hg w6 hbox hb; have d := mA (hbox); have dW := geW (w := w) hg; have dX := geW (w := w) hg; replace HB := mA (Zac (bW) hb); clear hb hbox hg) | ((with_reducible refine Zan (N := 13) rfl ?_); refine yS k106 _ 106 ?hg (N := 13) ?hd (xs := ([(⟨a1, 0⟩ : S106)] : List (S106))) (inner := [.int .i64 a1, .int .i64 0]) (ok := fun _ => True) (okp := fun _ => True) ?hr ?hp (fun _ hk => hk) trivial (Below.refl _ _) (Nat.le_refl _) (by simp) ?_; (case hd => rfl); (case hg => rfl); (case hr => first | (go_simp; done) | (go_simp; rfl)); (case hp => exact (Reps.c2 (show Kd.M k106 _ _ _ (⟨a1, 0⟩ : S106) [.int .i64 a1, .int .i64 0] from (k106_mkM _ _ _ (⟨a1, 0⟩ : S106) )) (Reps.none _ _))); intro er w7 a7 hb hg_ hnew_; clear hg_ hnew_; (first | rw [← aT.out] at a7 | (simp only [Int.reduceToNat] at a7; rw [← aT.out] at a7)); have am := mA (zQ a7 (Zao (bW))); replace d := mA (blkB d.out hb); replace HB := mA (Zac (bW) hb); clear hb a7) | ((with_reducible refine Zan (N := 14) rfl ?_); refine mapS (fun p_ : Int × Int => Value.agg #[.int .i64 p_.1, .int .i64 p_.2]) Value.bool (N := 14) ?_; intro Y hg w9 hbox hb; replace am := mA (zG (rP am.out) hb); have x := mA (hbox); have dY := geW (w := w) hg; have bl := geW (w := w) hg; replace HB := mA (Zac (bW) hb); have ah := mA (neB hg d); have az := mA (neC hg d); replace d := mA (blkB d.out hb); clear hb hbox hg; have dZ := ah.out; have d0 := az.out; obtain ⟨bu, bv, bw, bx⟩ := Zbk d.out; obtain ⟨bz, bB, bC, bD⟩ := frz4 d.out) | ((with_reducible refine Zal (f := 88) rfl ?_); refine Zbc (some 17) Tryd.func88 #[.int .i64 O] ?_; (with_reducible refine (Zb5.calls O ar _ A3.out).mono ?_); rintro e w' ⟨rfl, ⟨nd, rfl⟩⟩; refine ⟨_, rfl, ?_⟩) | ((with_reducible refine Zan (N := 18) rfl ?_); refine yT Kd.bool _ 4 rfl (N := 18) rfl 59 _ _ rfl ar rfl rfl Tryd.underlying59 (.bool false) 1 info4 rfl (by decide) (by omega) false (ok := fun _ => True) (okp := fun _ => True) rfl (fun _ hk => hk) trivial (ofD) (Nat.le_trans (Nat.mul_le_mul_right _ (ofD : ar.toNat ≤ 281474976710656)) (by omega)) (Below.refl _ _) (Nat.le_refl _) ?_; intro aC eB aD hb hg_ hnew_; clear hg_ hnew_; (first | rw [← aU.out] at aD | (simp only [Int.reduceToNat] at aD; rw [← aU.out] at aD)); replace am := mA (zG (rP am.out) hb); have b3 := mA (zQ aD (Zao (bW))); replace d := mA (blkB d.out hb); replace x := mA (blkB x.out hb); replace HB := mA (Zac (bW) hb); clear hb aD))
 go_loopg [5, 8] k (fun kq v5 v8 w' => ∃ (aE : List (S106)) (aV : List Bool) (a : Int) (ai : List ((Int × Int) × Bool)), v8 = .int .i64 a ∧ Zab (Zaf.l0 kq a1 aE aV a O X W q ai = some r) ∧ Zab (kq ≤ k) ∧ Zab (Kd.R k106 106 w' w.heap.size (fun _ => True) v5 aE) ∧ Zab (Kd.R Kd.bool 4 w' w.heap.size (fun _ => True) aC aV) ∧ Zab (w'.heap[D]? = some (.cells #[.int .i64 O, .int .i64 X, (.slice aa W.length ab), (.slice aq q.length ac)] 66 (0, 0))) ∧ Zab (w'.heap[Y]? = some (mobj (fun p_ : Int × Int => Value.agg #[.int .i64 p_.1, .int .i64 p_.2]) Value.bool ai)) ∧ Zab (Below w.heap.size w w'))
 case atStart => exact ⟨(cE), (cJ), (0), (([] : List ((Int × Int) × Bool))), (eW), H', ⟨Nat.le_refl _⟩, ⟨rP am.out⟩, ⟨rP b3.out⟩, ⟨bP d.out⟩, ⟨bP x.out⟩, ⟨bW⟩⟩
 case round =>
  clear H' cF cG cH cI bu bv bw bx bz bB bC bD
  obtain ⟨aE, aV, a, ai, rfl, HA, ak, s, B, d, x, HB⟩ := hrel
  cases gk with
  | zero => exact absurd HA.out (by simp [Zaf.l0])
  | succ k1 =>
   have H := HA.out
   clear HA
   simp only [Zaf.l0] at H
   by_cases aJ : a < (aE.length : Int); rotate_left
   ·rw [if_neg aJ] at H
    have bm := dF aJ
    clear aJ
    obtain rfl := oI H
    obtain ⟨es, et, cK⟩ := zH s.out
    subst cK
    go_wp2
    go_ret
    exact ⟨_, eW, (rP B.out), bW⟩
   rw [if_pos aJ] at H
   have bm := dT aJ
   clear aJ
   have H' := mA H
   clear H
   obtain ⟨eu, ev, cL⟩ := zH s.out
   subst cL
   have d1 := ah.out
   have d2 := az.out
   have bE : wr.cell? ⟨D, 0, none⟩ = some (.int .i64 O) := bc d 0
   have bF : wr.cell? ⟨D, 1, none⟩ = some (.int .i64 X) := bc d 1
   have bG : wr.cell? ⟨D, 2, none⟩ = some (.slice aa W.length ab) := bc d 2
   have bH : wr.cell? ⟨D, 3, none⟩ = some (.slice aq q.length ac) := bc d 3
   have bI := Zaa d.out 0
   have bJ := Zaa d.out 1
   have bK := Zaa d.out 2
   have bL := Zaa d.out 3
   go_wp2
   go_loopg [5, 27] k1 (fun kq v5 v27 w' => ∃ (c : List (S106)) (ae : List Bool) (m : Int) (A : List ((Int × Int) × Bool)), v27 = .int .i64 m ∧ Zab (Zaf.l1 kq a1 c ae a O m O X W q A = some r) ∧ Zab (kq ≤ k1) ∧ Zab (Kd.R k106 106 w' w.heap.size (fun _ => True) v5 c) ∧ Zab (Kd.R Kd.bool 4 w' w.heap.size (fun _ => True) aC ae) ∧ Zab (w'.heap[D]? = some (.cells #[.int .i64 O, .int .i64 X, (.slice aa W.length ab), (.slice aq q.length ac)] 66 (0, 0))) ∧ Zab (w'.heap[Y]? = some (mobj (fun p_ : Int × Int => Value.agg #[.int .i64 p_.1, .int .i64 p_.2]) Value.bool A)) ∧ Zab (Below w.heap.size w w'))
   case atStart => exact ⟨(aE), (aV), (0), (ai), (eW), H', ⟨Nat.le_refl _⟩, ⟨rP s.out⟩, ⟨rP B.out⟩, ⟨bP d.out⟩, ⟨bP x.out⟩, ⟨bW⟩⟩
   case round =>
    clear H' bm bE bF bG bH bI bJ bK bL
    obtain ⟨c, ae, m, A, rfl, HA, al, s, B, d, x, HB⟩ := hrel
    cases gk with
    | zero => exact absurd HA.out (by simp [Zaf.l1])
    | succ k2 =>
     have H := HA.out
     clear HA
     simp only [Zaf.l1] at H
     by_cases aK : m < O; rotate_left
     ·rw [if_neg aK] at H
      have bn := dF aK
      clear aK
      have H' := mA H
      clear H
      go_wp2
      go_roundg k2
      case measure => have := ak.out; have := al.out; omega
      case rel => exact ⟨(c), (ae), (wrap64 (a + 1)), (A), (eW), H', ⟨by have := ak.out; have := al.out; omega⟩, ⟨rP s.out⟩, ⟨rP B.out⟩, ⟨bP d.out⟩, ⟨bP x.out⟩, ⟨bW⟩⟩
     rw [if_pos aK] at H
     have bn := dT aK
     clear aK
     obtain ⟨b4, H⟩ := gE H
     obtain ⟨b5, H⟩ := gE H
     obtain ⟨b6, H⟩ := gE H
     obtain ⟨b7, H⟩ := gE H
     obtain ⟨b8, H⟩ := gE H
     obtain ⟨b9, H⟩ := gE H
     obtain ⟨z, ce, H⟩ := bA H
     have a8 := mA H
     clear H
     try go_wp2
     replace s := mA (zB s.out)
     replace B := mA (zB B.out)
     replace d := mA (Zah d.out)
     replace x := mA (Zah x.out)
     replace HB := mA (Zbe HB.out)
     obtain ⟨ew, aG, bM⟩ := zH s.out
     (first | subst bM | (injection bM with cf dK cg; have dL := cf.symm; have dM := cg.symm; clear cf dK cg; subst dL; subst dM))
     have aW : 0 ≤ (a : Int) := ofD
     have aX : a < (c.length : Int) := ofD
     obtain ⟨G, cM, au, av⟩ := at_T106 (zF s.out).2.2 a aW aX
     cases cM
     replace aW := eq_true aW
     replace aX := eq_true aX
     have aY : 0 ≤ (((Zam c a).f0) : Int) := ofD
     have aZ : ((Zam c a).f0) < (q.length : Int) := ofD
     obtain ⟨Z, dN, aH, cN, af, aM, aN⟩ := at_L1 b2.out ((Zam c a).f0) aY aZ
     have T := af
     cases cN
     replace af := (HB.out.cell (wB w af)).trans af
     have aQ := mA aN
     have cU := mA aM
     clear aN aM
     replace aY := eq_true aY
     replace aZ := eq_true aZ
     have a0 : 0 ≤ (m : Int) := ofD
     have a2 : m < ((Zae q ((Zam c a).f0)).length : Int) := ofD
     obtain ⟨aj, cO, ag⟩ := zK aQ.out m a0 a2
     have U := ag
     cases cO
     replace ag := (HB.out.cell (wB w ag)).trans ag
     replace a0 := eq_true a0
     replace a2 := eq_true a2
     have a3 : 0 ≤ (a : Int) := ofD
     have a4 : a < (c.length : Int) := ofD
     obtain ⟨ca, cQ, aw, ax⟩ := at_T106 (zF s.out).2.2 a a3 a4
     obtain rfl : G = ca := (by injection cQ)
     replace a3 := eq_true a3
     replace a4 := eq_true a4
     refine start_ (n := 23) (S := fun w' => w'.cell? ⟨D, 0, none⟩ = some (.int .i64 O) ∧ w'.cell? ⟨D, 1, none⟩ = some (.int .i64 X) ∧ w'.cell? ⟨D, 2, none⟩ = some (.slice aa W.length ab) ∧ w'.cell? ⟨D, 3, none⟩ = some (.slice (some Z) q.length ac) ∧ w'.cell? (G.add ((a).toNat * 2)) = some (.int .i64 ((Zam c a).f0)) ∧ w'.cell? ⟨(G.add ((a).toNat * 2)).block, (G.add ((a).toNat * 2)).off + 1, none⟩ = some (.int .i64 ((Zam c a).f1)) ∧ w'.cell? (Z.add (((Zam c a).f0)).toNat) = some (.slice (some aj) (Zae q ((Zam c a).f0)).length aH) ∧ w'.cell? (aj.add (m).toNat) = some (.int .i64 (rd (Zae q ((Zam c a).f0)) m)) ∧ w'.cell? (G.add ((a).toNat * 2)) = some (.int .i64 ((Zam c a).f0)) ∧ w'.cell? ⟨(G.add ((a).toNat * 2)).block, (G.add ((a).toNat * 2)).off + 1, none⟩ = some (.int .i64 ((Zam c a).f1))) (ds := []) #[false, false, false, false, false, false, false, false, false, false, false, false, false, false, false, false, false, false, false, false, false, false, false] (by kernel_rfl) rfl rfl ⟨bc d 0, bc d 1, bc d 2, bc d 3, au, av, (cB HB T :), (cB HB U :), aw, ax⟩ (fun hHeld => ?_); refine Zc6 Zaf.tab9 Zaf.bits9 (fun HT_ HW_ => ?_)
     generalize wr.drew = w27 at s B d x HB aQ au av af ag aw ax hHeld ⊢
     refine Za6 (i := 0) (N := some 30) (Zau HT_.out (by kernel_rfl)) ?_
     refine Za6 (i := 2) (N := some 32) (Zau HT_.out (by kernel_rfl)) ?_
     refine Za6 (i := 3) (N := some 33) (Zau HT_.out (by kernel_rfl)) ?_
     refine Za6 (i := 4) (N := some 34) (Zau HT_.out (by kernel_rfl)) ?_
     refine Za6 (i := 5) (N := some 35) (Zau HT_.out (by kernel_rfl)) ?_
     refine Za6 (i := 9) (N := some 39) (Zau HT_.out (by kernel_rfl)) ?_
     refine Za6 (i := 12) (N := some 42) (Zau HT_.out (by kernel_rfl)) ?_
     refine Za6 (i := 13) (N := some 43) (Zau HT_.out (by kernel_rfl)) ?_
     refine Za6 (i := 14) (N := some 44) (Zau HT_.out (by kernel_rfl)) ?_
     refine Za6 (i := 15) (N := some 45) (Zau HT_.out (by kernel_rfl)) ?_
     refine Za6 (i := 17) (N := some 47) (Zau HT_.out (by kernel_rfl)) ?_
     refine takeS (i := 1) (N := some 31) (Zbw HT_.out HW_.out (by kernel_rfl)) hHeld ?_
     refine takeS (i := 6) (N := some 36) (Zbw HT_.out HW_.out (by kernel_rfl)) hHeld ?_
     refine Za6 (i := 7) (N := some 37) (Zau HT_.out (by kernel_rfl)) ?_
     refine takeS (i := 8) (N := some 38) (Zbw HT_.out HW_.out (by kernel_rfl)) hHeld ?_
     refine Za6 (i := 10) (N := some 40) (Zau HT_.out (by kernel_rfl)) ?_
     refine takeS (i := 11) (N := some 41) (Zbw HT_.out HW_.out (by kernel_rfl)) hHeld ?_
     refine takeS (i := 16) (N := some 46) (Zbw HT_.out HW_.out (by kernel_rfl)) hHeld ?_
     refine join_ (σ := Nat) 1 #[true, true, true, true, true, true, true, true, true, true, true, true, true, true, true, true, true, true, true, true, true, true, false] (fun s_ => [(48, .int .i64 z), (10, .pointer (some ⟨s_, 0, none⟩)), (49, .int .i64 (Go.bits .or .i64 ((Zam c a).f1) z)), (50, .agg #[.int .i64 (rd (Zae q ((Zam c a).f0)) m), .int .i64 (Go.bits .or .i64 ((Zam c a).f1) z)])]) (fun s_ w' => (w'.cell? ⟨D, 0, none⟩ = some (.int .i64 O) ∧ w'.cell? ⟨D, 1, none⟩ = some (.int .i64 X) ∧ w'.cell? ⟨D, 2, none⟩ = some (.slice aa W.length ab) ∧ w'.cell? ⟨D, 3, none⟩ = some (.slice (some Z) q.length ac) ∧ w'.cell? (G.add ((a).toNat * 2)) = some (.int .i64 ((Zam c a).f0)) ∧ w'.cell? ⟨(G.add ((a).toNat * 2)).block, (G.add ((a).toNat * 2)).off + 1, none⟩ = some (.int .i64 ((Zam c a).f1)) ∧ w'.cell? (Z.add (((Zam c a).f0)).toNat) = some (.slice (some aj) (Zae q ((Zam c a).f0)).length aH) ∧ w'.cell? (aj.add (m).toNat) = some (.int .i64 (rd (Zae q ((Zam c a).f0)) m)) ∧ w'.cell? (G.add ((a).toNat * 2)) = some (.int .i64 ((Zam c a).f0)) ∧ w'.cell? ⟨(G.add ((a).toNat * 2)).block, (G.add ((a).toNat * 2)).off + 1, none⟩ = some (.int .i64 ((Zam c a).f1))) ∧ (Kd.R k106 106 w' w.heap.size (fun k_ => k_ ≠ s_) (.slice (some G) c.length aG) c) ∧ (Kd.R Kd.bool 4 w' w.heap.size (fun _ => True) aC ae) ∧ (w'.heap[D]? = some (.cells #[.int .i64 O, .int .i64 X, .slice aa W.length ab, .slice (some Z) q.length ac] 66 (0, 0))) ∧ (w'.heap[Y]? = some (mobj (fun p_ : Int × Int => Value.agg #[.int .i64 p_.1, .int .i64 p_.2]) Value.bool A)) ∧ (w'.heap[s_]? = some (.cells #[.int .i64 0, .int .i64 0] 106 (0, 0))) ∧ (w.heap.size ≤ s_) ∧ (w.heap.size ≤ s_) ∧ (D ≠ s_) ∧ (s_ ≠ D) ∧ (Y ≠ s_) ∧ (s_ ≠ Y) ∧ (Below w.heap.size w w')) ?_ ?_
     rotate_left
     ·intro hCont
      refine two_ (i := 18) (j := 21) (Ni := some 48) (Nj := some 10) #[true, true, true, true, true, true, true, true, true, true, true, true, true, true, true, true, true, true, true, false, false, false, false] #[true, true, true, true, true, true, true, true, true, true, true, true, true, true, true, true, true, true, false, false, false, true, false] rfl rfl rfl rfl (two_of HT_.out (by kernel_rfl)) (by decide) (by decide) (fun K hK => ?_) (fun K hK => ?_)
      ·skip
       refine goes_ Tryd.func88 (by kernel_rfl) rfl #[.int .i64 m] (by rfl) rfl rfl (by (try simp only [List.map_toArray, List.map_cons, List.map_nil]); first | done | rfl | (simp only [List.length_drop, List.length_take]; rfl)) ?_
       with_reducible refine (Zb5.calls m z _ ce.out).mono ?_
       rintro e w' ⟨rfl, ⟨nd, rfl⟩⟩
       refine ⟨_, rfl, ?_⟩
       refine hK.out _ _ ⟨bc d 0, bc d 1, bc d 2, bc d 3, hHeld.2.2.2.2.1, hHeld.2.2.2.2.2.1, (cB HB T :), (cB HB U :), hHeld.2.2.2.2.2.2.2.2.1, hHeld.2.2.2.2.2.2.2.2.2⟩ (fun hHeld => ?_)
       clear hK K
       refine putS 48 ?_
       refine Za6 (i := 19) (N := some 49) (Zau HT_.out (by kernel_rfl)) ?_
       refine Za6 (i := 20) (N := some 50) (Zau HT_.out (by kernel_rfl)) ?_
       refine one_ (i := 21) (N := some 10) #[true, true, true, true, true, true, true, true, true, true, true, true, true, true, true, true, true, true, true, true, true, true, false] rfl rfl (Zcc HT_.out (by kernel_rfl)) (by decide) (fun K hK => ?_)
       refine box_step ?hg (N := 10) ?hd (cs := #[.int .i64 0, .int .i64 0]) (t := 106) ?hr ?_; (case hd => rfl); (case hg => rfl); (case hr => first | (go_simp; done) | (go_simp; rfl))
       intro l hg dO hbox hb
       have a9 := (hb.cell (World.block_lt_of_cell? _ _ (hHeld.2.2.2.2.1))).trans (hHeld.2.2.2.2.1)
       have ba := (hb.cell (World.block_lt_of_cell? _ _ (hHeld.2.2.2.2.2.1))).trans (hHeld.2.2.2.2.2.1)
       have bb := (hb.cell (World.block_lt_of_cell? _ _ (hHeld.2.2.2.2.2.2.2.2.1))).trans (hHeld.2.2.2.2.2.2.2.2.1)
       have bd := (hb.cell (World.block_lt_of_cell? _ _ (hHeld.2.2.2.2.2.2.2.2.2))).trans (hHeld.2.2.2.2.2.2.2.2.2)
       replace s := mA (zG (Kd.R_elderB (rP s.out) l (Nat.le_of_eq hg.symm)) hb)
       replace B := mA (zG (rP B.out) hb)
       have u := mA (hbox)
       have J := geW (w := w) hg
       have aA := geW (w := w) hg
       replace HB := mA (Zac (bW) hb)
       have y := mA (neB hg d)
       have P := mA (neC hg d)
       replace d := mA (blkB d.out hb)
       have E := mA (neB hg x)
       have I := mA (neC hg x)
       replace x := mA (blkB x.out hb)
       clear hb hbox hg
       refine hK.out _ _ ⟨bc d 0, bc d 1, bc d 2, bc d 3, a9, ba, (cB HB T :), (cB HB U :), bb, bd⟩ (fun hHeld => ?_)
       clear hK K
       refine putS 10 ?_
       exact norm_ (by simp only [putAll, Act.put, List.setIfInBounds_toArray, List.set_cons_zero, List.set_cons_succ]) (hCont (l) _ ⟨hHeld, (by (with_reducible repeat (first | apply zE | apply zD | apply zB)); exact zA s.out (fun _ hk => hk.2)), (rP B.out), (bP d.out), (bP x.out), (bP u.out), J.out, aA.out, y.out, P.out, E.out, I.out, (bW)⟩)
      skip
      refine box_step ?hg (N := 10) ?hd (cs := #[.int .i64 0, .int .i64 0]) (t := 106) ?hr ?_; (case hd => rfl); (case hg => rfl); (case hr => first | (go_simp; done) | (go_simp; rfl))
      intro l hg dO hbox hb
      have a9 := (hb.cell (World.block_lt_of_cell? _ _ (hHeld.2.2.2.2.1))).trans (hHeld.2.2.2.2.1)
      have ba := (hb.cell (World.block_lt_of_cell? _ _ (hHeld.2.2.2.2.2.1))).trans (hHeld.2.2.2.2.2.1)
      have bb := (hb.cell (World.block_lt_of_cell? _ _ (hHeld.2.2.2.2.2.2.2.2.1))).trans (hHeld.2.2.2.2.2.2.2.2.1)
      have bd := (hb.cell (World.block_lt_of_cell? _ _ (hHeld.2.2.2.2.2.2.2.2.2))).trans (hHeld.2.2.2.2.2.2.2.2.2)
      replace s := mA (zG (Kd.R_elderB (rP s.out) l (Nat.le_of_eq hg.symm)) hb)
      replace B := mA (zG (rP B.out) hb)
      have u := mA (hbox)
      have J := geW (w := w) hg
      have aA := geW (w := w) hg
      replace HB := mA (Zac (bW) hb)
      have y := mA (neB hg d)
      have P := mA (neC hg d)
      replace d := mA (blkB d.out hb)
      have E := mA (neB hg x)
      have I := mA (neC hg x)
      replace x := mA (blkB x.out hb)
      clear hb hbox hg
      refine hK.out _ _ ⟨bc d 0, bc d 1, bc d 2, bc d 3, a9, ba, (cB HB T :), (cB HB U :), bb, bd⟩ (fun hHeld => ?_)
      clear hK K
      refine putS 10 ?_
      refine one_ (i := 18) (N := some 48) #[true, true, true, true, true, true, true, true, true, true, true, true, true, true, true, true, true, true, true, false, false, true, false] rfl rfl (Zcc HT_.out (by kernel_rfl)) (by decide) (fun K hK => ?_)
      refine goes_ Tryd.func88 (by kernel_rfl) rfl #[.int .i64 m] (by rfl) rfl rfl (by (try simp only [List.map_toArray, List.map_cons, List.map_nil]); first | done | rfl | (simp only [List.length_drop, List.length_take]; rfl)) ?_
      with_reducible refine (Zb5.calls m z _ ce.out).mono ?_
      rintro e w' ⟨rfl, ⟨nd, rfl⟩⟩
      refine ⟨_, rfl, ?_⟩
      refine hK.out _ _ ⟨bc d 0, bc d 1, bc d 2, bc d 3, hHeld.2.2.2.2.1, hHeld.2.2.2.2.2.1, (cB HB T :), (cB HB U :), hHeld.2.2.2.2.2.2.2.2.1, hHeld.2.2.2.2.2.2.2.2.2⟩ (fun hHeld => ?_)
      clear hK K
      refine putS 48 ?_
      refine Za6 (i := 19) (N := some 49) (Zau HT_.out (by kernel_rfl)) ?_
      refine Za6 (i := 20) (N := some 50) (Zau HT_.out (by kernel_rfl)) ?_
      exact norm_ (by simp only [putAll, Act.put, List.setIfInBounds_toArray, List.set_cons_zero, List.set_cons_succ]) (hCont (l) _ ⟨hHeld, (by (with_reducible repeat (first | apply zE | apply zD | apply zB)); exact zA s.out (fun _ hk => hk.2)), (rP B.out), (bP d.out), (bP x.out), (bP u.out), J.out, aA.out, y.out, P.out, E.out, I.out, (bW)⟩)
     rintro l ad ⟨hS_, ch, ci, cj, ck, cl, cm, cn, co, cp, cq, bN, bO⟩
     have cr : Zab (Kd.R k106 106 ad w.heap.size (fun k_ => k_ ≠ l) (.slice (some G) c.length aG) c) := ⟨ch⟩
     have ct : Zab (Kd.R Kd.bool 4 ad w.heap.size (fun _ => True) aC ae) := ⟨ci⟩
     have cu : Zab (ad.heap[D]? = some (.cells #[.int .i64 O, .int .i64 X, .slice aa W.length ab, .slice (some Z) q.length ac] 66 (0, 0))) := ⟨cj⟩
     have cv : Zab (ad.heap[Y]? = some (mobj (fun p_ : Int × Int => Value.agg #[.int .i64 p_.1, .int .i64 p_.2]) Value.bool A)) := ⟨ck⟩
     have cw : Zab (ad.heap[l]? = some (.cells #[.int .i64 0, .int .i64 0] 106 (0, 0))) := ⟨cl⟩
     have cx : Zab (w.heap.size ≤ l) := ⟨cm⟩
     have cy : Zab (w.heap.size ≤ l) := ⟨cn⟩
     have cz : Zab (D ≠ l) := ⟨co⟩
     have cA : Zab (l ≠ D) := ⟨cp⟩
     have cC : Zab (Y ≠ l) := ⟨cq⟩
     have bQ : Zab (l ≠ Y) := ⟨bN⟩
     have bR : Zab (Below w.heap.size w ad) := ⟨bO⟩
     clear s B d x HB ch ci cj ck cl cm cn co cp cq bN bO; have s := cr; have B := ct; have d := cu; have x := cv; have u := cw; have J := cx; have aA := cy; have y := cz; have P := cA; have E := cC; have I := bQ; have HB := bR; clear cr ct cu cv cw cx cy cz cA cC bQ bR
     have hHeld : ad.cell? ⟨D, 0, none⟩ = some (.int .i64 O) ∧ ad.cell? ⟨D, 1, none⟩ = some (.int .i64 X) ∧ ad.cell? ⟨D, 2, none⟩ = some (.slice aa W.length ab) ∧ ad.cell? ⟨D, 3, none⟩ = some (.slice (some Z) q.length ac) ∧ ad.cell? (G.add ((a).toNat * 2)) = some (.int .i64 ((Zam c a).f0)) ∧ ad.cell? ⟨(G.add ((a).toNat * 2)).block, (G.add ((a).toNat * 2)).off + 1, none⟩ = some (.int .i64 ((Zam c a).f1)) ∧ ad.cell? (Z.add (((Zam c a).f0)).toNat) = some (.slice (some aj) (Zae q ((Zam c a).f0)).length aH) ∧ ad.cell? (aj.add (m).toNat) = some (.int .i64 (rd (Zae q ((Zam c a).f0)) m)) ∧ ad.cell? (G.add ((a).toNat * 2)) = some (.int .i64 ((Zam c a).f0)) ∧ ad.cell? ⟨(G.add ((a).toNat * 2)).block, (G.add ((a).toNat * 2)).off + 1, none⟩ = some (.int .i64 ((Zam c a).f1)) := hS_
     refine norm_ (a' := ?_) ?_ ?_
     rotate_left
     ·simp only [putAll, Act.put, List.setIfInBounds_toArray, List.set_cons_zero, List.set_cons_succ]
      rfl
     refine one_ (i := 22) (N := none) #[true, true, true, true, true, true, true, true, true, true, true, true, true, true, true, true, true, true, true, true, true, true, true] rfl rfl (Zcc HT_.out (by kernel_rfl)) (by decide) (fun K hK => ?_)
     have ex : ad.cell? ⟨l, 0, none⟩ = some (.int .i64 0) := bc u 0
     have d3 := Zaa u.out 0
     have cV := y.out
     have cW := E.out
     have cX := P.out
     have cY := I.out
     have ey : ad.cell? ⟨l, 1, none⟩ = some (.int .i64 0) := bc u 1
     have d4 := Zaa u.out 1
     have cZ := y.out
     have c0 := E.out
     have c1 := P.out
     have da := I.out
     refine skip_ (w1 := ?_) (by rfl) rfl ?_ ?_
     rotate_left
     ·go_simp
      rfl
     refine hK.out _ _ ⟨((Zca (p := ⟨l, _, none⟩) y.out _).trans (((Zca (p := ⟨l, _, none⟩) y.out _).trans (hHeld.1)))), ((Zca (p := ⟨l, _, none⟩) y.out _).trans (((Zca (p := ⟨l, _, none⟩) y.out _).trans (hHeld.2.1)))), ((Zca (p := ⟨l, _, none⟩) y.out _).trans (((Zca (p := ⟨l, _, none⟩) y.out _).trans (hHeld.2.2.1)))), ((Zca (p := ⟨l, _, none⟩) y.out _).trans (((Zca (p := ⟨l, _, none⟩) y.out _).trans (hHeld.2.2.2.1)))), ((Zca (p := ⟨l, _, none⟩) (by first | exact Kd.own_blk (zT s.out (fun _ hk => hk)) | (rw [Za9]; exact Kd.own_blk (zT s.out (fun _ hk => hk))) | (show (Addr.add _ _).block ≠ _; rw [Za9]; exact Kd.own_blk (zT s.out (fun _ hk => hk))) | (dsimp only; exact Kd.own_blk (zT s.out (fun _ hk => hk)))) _).trans (((Zca (p := ⟨l, _, none⟩) (by first | exact Kd.own_blk (zT s.out (fun _ hk => hk)) | (rw [Za9]; exact Kd.own_blk (zT s.out (fun _ hk => hk))) | (show (Addr.add _ _).block ≠ _; rw [Za9]; exact Kd.own_blk (zT s.out (fun _ hk => hk))) | (dsimp only; exact Kd.own_blk (zT s.out (fun _ hk => hk)))) _).trans (hHeld.2.2.2.2.1)))), ((Zca (p := ⟨l, _, none⟩) (by first | exact Kd.own_blk (zT s.out (fun _ hk => hk)) | (rw [Za9]; exact Kd.own_blk (zT s.out (fun _ hk => hk))) | (show (Addr.add _ _).block ≠ _; rw [Za9]; exact Kd.own_blk (zT s.out (fun _ hk => hk))) | (dsimp only; exact Kd.own_blk (zT s.out (fun _ hk => hk)))) _).trans (((Zca (p := ⟨l, _, none⟩) (by first | exact Kd.own_blk (zT s.out (fun _ hk => hk)) | (rw [Za9]; exact Kd.own_blk (zT s.out (fun _ hk => hk))) | (show (Addr.add _ _).block ≠ _; rw [Za9]; exact Kd.own_blk (zT s.out (fun _ hk => hk))) | (dsimp only; exact Kd.own_blk (zT s.out (fun _ hk => hk)))) _).trans (hHeld.2.2.2.2.2.1)))), ((Zca (p := ⟨l, _, none⟩) (by first | exact Nat.ne_of_lt (Nat.lt_of_lt_of_le (by have := World.block_lt_of_cell? _ _ T; first | rwa [Za9] at this | exact this) J.out) | (rw [Za9]; exact Nat.ne_of_lt (Nat.lt_of_lt_of_le (by have := World.block_lt_of_cell? _ _ T; first | rwa [Za9] at this | exact this) J.out)) | (show (Addr.add _ _).block ≠ _; rw [Za9]; exact Nat.ne_of_lt (Nat.lt_of_lt_of_le (by have := World.block_lt_of_cell? _ _ T; first | rwa [Za9] at this | exact this) J.out)) | (dsimp only; exact Nat.ne_of_lt (Nat.lt_of_lt_of_le (by have := World.block_lt_of_cell? _ _ T; first | rwa [Za9] at this | exact this) J.out))) _).trans (((Zca (p := ⟨l, _, none⟩) (by first | exact Nat.ne_of_lt (Nat.lt_of_lt_of_le (by have := World.block_lt_of_cell? _ _ T; first | rwa [Za9] at this | exact this) J.out) | (rw [Za9]; exact Nat.ne_of_lt (Nat.lt_of_lt_of_le (by have := World.block_lt_of_cell? _ _ T; first | rwa [Za9] at this | exact this) J.out)) | (show (Addr.add _ _).block ≠ _; rw [Za9]; exact Nat.ne_of_lt (Nat.lt_of_lt_of_le (by have := World.block_lt_of_cell? _ _ T; first | rwa [Za9] at this | exact this) J.out)) | (dsimp only; exact Nat.ne_of_lt (Nat.lt_of_lt_of_le (by have := World.block_lt_of_cell? _ _ T; first | rwa [Za9] at this | exact this) J.out))) _).trans (hHeld.2.2.2.2.2.2.1)))), ((Zca (p := ⟨l, _, none⟩) (by first | exact Nat.ne_of_lt (Nat.lt_of_lt_of_le (by have := World.block_lt_of_cell? _ _ U; first | rwa [Za9] at this | exact this) J.out) | (rw [Za9]; exact Nat.ne_of_lt (Nat.lt_of_lt_of_le (by have := World.block_lt_of_cell? _ _ U; first | rwa [Za9] at this | exact this) J.out)) | (show (Addr.add _ _).block ≠ _; rw [Za9]; exact Nat.ne_of_lt (Nat.lt_of_lt_of_le (by have := World.block_lt_of_cell? _ _ U; first | rwa [Za9] at this | exact this) J.out)) | (dsimp only; exact Nat.ne_of_lt (Nat.lt_of_lt_of_le (by have := World.block_lt_of_cell? _ _ U; first | rwa [Za9] at this | exact this) J.out))) _).trans (((Zca (p := ⟨l, _, none⟩) (by first | exact Nat.ne_of_lt (Nat.lt_of_lt_of_le (by have := World.block_lt_of_cell? _ _ U; first | rwa [Za9] at this | exact this) J.out) | (rw [Za9]; exact Nat.ne_of_lt (Nat.lt_of_lt_of_le (by have := World.block_lt_of_cell? _ _ U; first | rwa [Za9] at this | exact this) J.out)) | (show (Addr.add _ _).block ≠ _; rw [Za9]; exact Nat.ne_of_lt (Nat.lt_of_lt_of_le (by have := World.block_lt_of_cell? _ _ U; first | rwa [Za9] at this | exact this) J.out)) | (dsimp only; exact Nat.ne_of_lt (Nat.lt_of_lt_of_le (by have := World.block_lt_of_cell? _ _ U; first | rwa [Za9] at this | exact this) J.out))) _).trans (hHeld.2.2.2.2.2.2.2.1)))), ((Zca (p := ⟨l, _, none⟩) (by first | exact Kd.own_blk (zT s.out (fun _ hk => hk)) | (rw [Za9]; exact Kd.own_blk (zT s.out (fun _ hk => hk))) | (show (Addr.add _ _).block ≠ _; rw [Za9]; exact Kd.own_blk (zT s.out (fun _ hk => hk))) | (dsimp only; exact Kd.own_blk (zT s.out (fun _ hk => hk)))) _).trans (((Zca (p := ⟨l, _, none⟩) (by first | exact Kd.own_blk (zT s.out (fun _ hk => hk)) | (rw [Za9]; exact Kd.own_blk (zT s.out (fun _ hk => hk))) | (show (Addr.add _ _).block ≠ _; rw [Za9]; exact Kd.own_blk (zT s.out (fun _ hk => hk))) | (dsimp only; exact Kd.own_blk (zT s.out (fun _ hk => hk)))) _).trans (hHeld.2.2.2.2.2.2.2.2.1)))), ((Zca (p := ⟨l, _, none⟩) (by first | exact Kd.own_blk (zT s.out (fun _ hk => hk)) | (rw [Za9]; exact Kd.own_blk (zT s.out (fun _ hk => hk))) | (show (Addr.add _ _).block ≠ _; rw [Za9]; exact Kd.own_blk (zT s.out (fun _ hk => hk))) | (dsimp only; exact Kd.own_blk (zT s.out (fun _ hk => hk)))) _).trans (((Zca (p := ⟨l, _, none⟩) (by first | exact Kd.own_blk (zT s.out (fun _ hk => hk)) | (rw [Za9]; exact Kd.own_blk (zT s.out (fun _ hk => hk))) | (show (Addr.add _ _).block ≠ _; rw [Za9]; exact Kd.own_blk (zT s.out (fun _ hk => hk))) | (dsimp only; exact Kd.own_blk (zT s.out (fun _ hk => hk)))) _).trans (hHeld.2.2.2.2.2.2.2.2.2))))⟩ (fun hHeld => ?_)
     clear hK K
     refine done_ (done_of HT_.out (by kernel_rfl)) ?_
     go_upto_region 10 with (fail)
     go_cut [58] (fun v58 wc => ∃ (kq : Nat) (an : Bool), v58 = .bool an ∧ Zab (Zaf.j2 kq a1 c ae a O m an O X W q A (rd (Zae q ((Zam c a).f0)) m) (Go.bits .or .i64 ((Zam c a).f1) z) = some r) ∧ Zab (kq ≤ k2) ∧ Zab (Kd.R k106 106 wc w.heap.size (fun k_ => k_ ≠ l) (.slice (some G) c.length aG) c) ∧ Zab (Kd.R Kd.bool 4 wc w.heap.size (fun _ => True) aC ae) ∧ Zab (wc.heap[D]? = some (.cells #[.int .i64 O, .int .i64 X, (.slice aa W.length ab), (.slice (some Z) q.length ac)] 66 (0, 0))) ∧ Zab (wc.heap[Y]? = some (mobj (fun p_ : Int × Int => Value.agg #[.int .i64 p_.1, .int .i64 p_.2]) Value.bool A)) ∧ Zab (wc.heap[l]? = some (.cells #[.int .i64 (rd (Zae q ((Zam c a).f0)) m), .int .i64 (Go.bits .or .i64 ((Zam c a).f1) z)] 106 (0, 0))) ∧ Zab (Below w.heap.size w wc))
     case first =>
      have H := a8.out
      clear a8
      by_cases aR : (rd (Zae q ((Zam c a).f0)) m) < 0
      ·rw [if_pos aR] at H
       have ao := dT aR
       clear aR
       (first | rw [ao] | (simp only [Zci, i32_w]; rw [ao]) | skip)
       have H' := mA H
       clear H
       have d5 := P.out
       have d6 := y.out
       have d7 := I.out
       have d8 := E.out
       have db : ad.cell? ⟨l, 0, none⟩ = some (.int .i64 0) := bc u 0
       have dc : ad.cell? ⟨l, 1, none⟩ = some (.int .i64 0) := bc u 1
       have dd := Zaa u.out 0
       have de := Zaa u.out 1
       go_wp2
       go_meet
       case rel => exact ⟨_, (true), (eW), H', ⟨by have := ak.out; have := al.out; first | omega | exact Nat.le_refl _⟩, ⟨by (with_reducible repeat (first | apply zE | apply zD | apply zB)); exact zA (zJ (p := ⟨l, 1, none⟩) (zJ (p := ⟨l, 0, none⟩) (zA s.out (fun k_ hk => (⟨hk, hk⟩ : _ ∧ k_ ≠ l))) (fun _ hk => hk.2) (.int .i64 (rd (Zae q ((Zam c a).f0)) m))) (fun _ hk => hk.2) (.int .i64 (Go.bits .or .i64 ((Zam c a).f1) z))) (fun _ hk => hk.1)⟩, ⟨by (with_reducible repeat (first | apply zE | apply zD | apply zB)); exact zA (zJ (p := ⟨l, 1, none⟩) (zJ (p := ⟨l, 0, none⟩) (yE B.out u.out (by decide)) (fun _ hk => hk.2) (.int .i64 (rd (Zae q ((Zam c a).f0)) m))) (fun _ hk => hk.2) (.int .i64 (Go.bits .or .i64 ((Zam c a).f1) z))) (fun _ hk => trivial)⟩, ⟨by (with_reducible repeat (first | refine Zai ?_ _ | refine Zah ?_ | refine Zag ?_ _)); refine blk_farO ?_ y.out _; (with_reducible repeat (first | refine Zai ?_ _ | refine Zah ?_ | refine Zag ?_ _)); refine blk_farO ?_ y.out _; exact bP d.out⟩, ⟨by (with_reducible repeat (first | refine Zai ?_ _ | refine Zah ?_ | refine Zag ?_ _)); refine blk_farO ?_ E.out _; (with_reducible repeat (first | refine Zai ?_ _ | refine Zah ?_ | refine Zag ?_ _)); refine blk_farO ?_ E.out _; exact bP x.out⟩, ⟨by (with_reducible repeat (first | refine Zai ?_ _ | refine Zah ?_ | refine Zag ?_ _)); refine Zbj (cs := #[.int .i64 (rd (Zae q ((Zam c a).f0)) m), .int .i64 0]) ?_ 1 _ rfl; (with_reducible repeat (first | refine Zai ?_ _ | refine Zah ?_ | refine Zag ?_ _)); refine Zbj (cs := #[.int .i64 0, .int .i64 0]) ?_ 0 _ rfl; exact bP u.out⟩, ⟨bW⟩⟩
      rw [if_neg aR] at H
      have ao := dF aR
      clear aR
      (first | rw [ao] | (simp only [Zci, i32_w]; rw [ao]) | skip)
      have H' := mA H
      clear H
      have d9 := P.out
      have ea := y.out
      have eb := I.out
      have ec := E.out
      have df : ad.cell? ⟨l, 0, none⟩ = some (.int .i64 0) := bc u 0
      have dg : ad.cell? ⟨l, 1, none⟩ = some (.int .i64 0) := bc u 1
      have dh := Zaa u.out 0
      have di := Zaa u.out 1
      go_wp2_with (first | ((with_reducible refine Zan (N := 57) rfl ?_); refine mget1SP (eK := (fun p_ : Int × Int => Value.agg #[.int .i64 p_.1, .int .i64 p_.2])) (eV := Value.bool) (g := Y) (L := A) false (rd (Zae q ((Zam c a).f0)) m, Go.bits .or .i64 ((Zam c a).f1) z) (mkeyP_ii Tryd.underlying106 (by kernel_rfl) rfl rfl rfl rfl rfl rfl Tryd.underlying2 Tryd.underlying2) (by (with_reducible repeat (first | refine Zai ?_ _ | refine Zah ?_ | refine Zag ?_ _)); refine blk_farO ?_ E.out _; (with_reducible repeat (first | refine Zai ?_ _ | refine Zah ?_ | refine Zag ?_ _)); refine blk_farO ?_ E.out _; exact bP x.out) Tryd.underlying108 (Tryd.zeroValue4 _) ?_))
      go_meet
      case rel => exact ⟨_, (mget false A (rd (Zae q ((Zam c a).f0)) m, Go.bits .or .i64 ((Zam c a).f1) z)), (eW), H', ⟨by have := ak.out; have := al.out; first | omega | exact Nat.le_refl _⟩, ⟨by (with_reducible repeat (first | apply zE | apply zD | apply zB)); exact zA (zJ (p := ⟨l, 1, none⟩) (zJ (p := ⟨l, 0, none⟩) (zA s.out (fun k_ hk => (⟨hk, hk⟩ : _ ∧ k_ ≠ l))) (fun _ hk => hk.2) (.int .i64 (rd (Zae q ((Zam c a).f0)) m))) (fun _ hk => hk.2) (.int .i64 (Go.bits .or .i64 ((Zam c a).f1) z))) (fun _ hk => hk.1)⟩, ⟨by (with_reducible repeat (first | apply zE | apply zD | apply zB)); exact zA (zJ (p := ⟨l, 1, none⟩) (zJ (p := ⟨l, 0, none⟩) (yE B.out u.out (by decide)) (fun _ hk => hk.2) (.int .i64 (rd (Zae q ((Zam c a).f0)) m))) (fun _ hk => hk.2) (.int .i64 (Go.bits .or .i64 ((Zam c a).f1) z))) (fun _ hk => trivial)⟩, ⟨by (with_reducible repeat (first | refine Zai ?_ _ | refine Zah ?_ | refine Zag ?_ _)); refine blk_farO ?_ y.out _; (with_reducible repeat (first | refine Zai ?_ _ | refine Zah ?_ | refine Zag ?_ _)); refine blk_farO ?_ y.out _; exact bP d.out⟩, ⟨by (with_reducible repeat (first | refine Zai ?_ _ | refine Zah ?_ | refine Zag ?_ _)); refine blk_farO ?_ E.out _; (with_reducible repeat (first | refine Zai ?_ _ | refine Zah ?_ | refine Zag ?_ _)); refine blk_farO ?_ E.out _; exact bP x.out⟩, ⟨by (with_reducible repeat (first | refine Zai ?_ _ | refine Zah ?_ | refine Zag ?_ _)); refine Zbj (cs := #[.int .i64 (rd (Zae q ((Zam c a).f0)) m), .int .i64 0]) ?_ 1 _ rfl; (with_reducible repeat (first | refine Zai ?_ _ | refine Zah ?_ | refine Zag ?_ _)); refine Zbj (cs := #[.int .i64 0, .int .i64 0]) ?_ 0 _ rfl; exact bP u.out⟩, ⟨bW⟩⟩
     case rest =>
      clear a8 bn b4 b5 b6 b7 b8 b9 au av af ag aw ax aW aY a0 a3 aX aZ a2 a4
      obtain ⟨kq, an, rfl, HA, ay, s, B, d, x, u, HB⟩ := hcut
      cases kq with
      | zero => exact absurd HA.out (by simp [Zaf.j2])
      | succ bf =>
       have H := HA.out
       clear HA
       simp only [Zaf.j2] at H
       by_cases bo : an = true
       ·subst bo
        rw [if_pos rfl] at H
        have H' := mA H
        clear H
        go_wp2
        go_roundg bf
        case measure => have := ak.out; have := al.out; have := ay.out; omega
        case rel => exact ⟨(c), (ae), (wrap64 (m + 1)), (A), (eW), H', ⟨by have := ak.out; have := al.out; have := ay.out; omega⟩, ⟨by (with_reducible repeat (first | apply zE | apply zD | apply zB)); exact zA s.out (fun _ hk => trivial)⟩, ⟨rP B.out⟩, ⟨bP d.out⟩, ⟨bP x.out⟩, ⟨bW⟩⟩
       replace bo := Bool.eq_false_iff.mpr bo
       subst bo
       rw [iF] at H
       by_cases bp : c.length < 8796093022208; rotate_left
       ·rw [if_neg bp] at H
        exact absurd H (by simp)
       rw [if_pos bp] at H
       have bq := mA bp
       clear bp
       obtain ⟨bS, a5⟩ : ∃ y_ : List (S106), y_ = (c ++ [(⟨(rd (Zae q ((Zam c a).f0)) m), (Go.bits .or .i64 ((Zam c a).f1) z)⟩ : S106)]) := ⟨_, rfl⟩
       replace H := bsm a5 H
       have br := mA a5
       clear a5
       by_cases aI : (rd (Zae q ((Zam c a).f0)) m) = a1; rotate_left
       ·rw [if_neg aI] at H
        have cb : ((rd (Zae q ((Zam c a).f0)) m) == a1) = false := beq_eq_false_iff_ne.mpr aI
        have cc : ((rd (Zae q ((Zam c a).f0)) m) != a1) = true := bne_iff_ne.mpr aI
        have H' := mA H
        clear H
        have ed := P.out
        have ee := y.out
        have ef := I.out
        have eg := E.out
        have dj : wc.cell? ⟨l, 0, none⟩ = some (.int .i64 (rd (Zae q ((Zam c a).f0)) m)) := bc u 0
        have dk : wc.cell? ⟨l, 1, none⟩ = some (.int .i64 (Go.bits .or .i64 ((Zam c a).f1) z)) := bc u 1
        have dl := Zaa u.out 0
        have dm := Zaa u.out 1
        go_wp2_with (first | ((with_reducible refine gate_mset (t := 108) rfl ?_); refine msetSP (eK := (fun p_ : Int × Int => Value.agg #[.int .i64 p_.1, .int .i64 p_.2])) (eV := Value.bool) (g := Y) (L := A) ((rd (Zae q ((Zam c a).f0)) m), (Go.bits .or .i64 ((Zam c a).f1) z)) true (mkeyP_ii Tryd.underlying106 (by kernel_rfl) rfl rfl rfl rfl rfl rfl Tryd.underlying2 Tryd.underlying2) (bP x.out) Tryd.underlying108 ?_; intro eC hbk hg; replace s := mA (Kd.R_mset (rP s.out) (bP x.out) hg); replace B := mA (Kd.R_mset (rP B.out) (bP x.out) hg); replace d := mA (Zay (g := D) (o := .cells #[.int .i64 O, .int .i64 X, .slice aa W.length ab, .slice (some Z) q.length ac] 66 (0, 0)) (bP d.out) hg (fun e_ => ah.out (Option.some.inj e_))); replace x := mA (hbk); replace u := mA (Zay (g := l) (o := .cells #[.int .i64 (rd (Zae q ((Zam c a).f0)) m), .int .i64 (Go.bits .or .i64 ((Zam c a).f1) z)] 106 (0, 0)) (bP u.out) hg (fun e_ => I.out (Option.some.inj e_))); replace HB := mA ((fun h_ => Below.grown h_ hg h_.size (fun k_ e_ => by injection e_ with e_; rw [← e_]; exact bl.out)) (bW)); clear hg hbk; obtain ⟨dn, dp⟩ := Zcg u.out; obtain ⟨dq, dr⟩ := frz2 u.out) | ((with_reducible refine Zch (b := .append) (xs := #[.tmp 61, .tmp 63]) rfl ?_); at_builtin; refine yO k106 (w0 := w) w.heap.size rfl (.tmp 61) (.tmp 63) 107 106 (.agg #[(.int .i64 0), (.int .i64 0)]) 16 rfl Tryd.underlying107 info106 rfl (by decide) (by omega) (.slice (some G) c.length aG) c (⟨(rd (Zae q ((Zam c a).f0)) m), (Go.bits .or .i64 ((Zam c a).f1) z)⟩ : S106) [.int .i64 (rd (Zae q ((Zam c a).f0)) m), .int .i64 (Go.bits .or .i64 ((Zam c a).f1) z)] (fun k_ => k_ ≠ l) (fun _ => False) rfl rfl ?aP (fun _ hk => hk.elim) ?aF ?aO ?aB ?aS ?aL ?_; (case aP => exact k106_mkM _ _ _ (⟨(rd (Zae q ((Zam c a).f0)) m), (Go.bits .or .i64 ((Zam c a).f1) z)⟩ : S106)); (case aB => exact (bW)); (case aF => exact (fun k_ hk => yW (g := l) (o := .cells #[.int .i64 (rd (Zae q ((Zam c a).f0)) m), .int .i64 (Go.bits .or .i64 ((Zam c a).f1) z)] 106 (0, 0)) (bP u.out) k_ hk)); (case aO => exact (rP s.out)); (case aS => exact (Zao (bW))); (case aL => have := bq.out; omega); intro cR eD ho hb hg hat; rw [← br.out] at ho; replace B := mA (zW (rP B.out) (zV (rP s.out)) (by decide) hg); replace d := mA (Zay (g := D) (o := .cells #[.int .i64 O, .int .i64 X, .slice aa W.length ab, .slice (some Z) q.length ac] 66 (0, 0)) (bP d.out) hg (zM s.out d.out (by decide))); replace x := mA (Zay (g := Y) (o := mobj (fun p_ : Int × Int => Value.agg #[.int .i64 p_.1, .int .i64 p_.2]) Value.bool (mset A ((rd (Zae q ((Zam c a).f0)) m), (Go.bits .or .i64 ((Zam c a).f1) z)) true)) (bP x.out) hg (Kd.R_nem s.out x.out)); replace u := mA (Zay (g := l) (o := .cells #[.int .i64 (rd (Zae q ((Zam c a).f0)) m), .int .i64 (Go.bits .or .i64 ((Zam c a).f1) z)] 106 (0, 0)) (bP u.out) hg (zT s.out (fun _ hk => hk))); replace HB := mA (hb); have ap := mA (ho); clear s ho hb hg hat; obtain ⟨dt, du⟩ := Zcg u.out; obtain ⟨dv, dw⟩ := frz2 u.out))
        go_roundg bf
        case measure => have := ak.out; have := al.out; have := ay.out; omega
        case rel => exact ⟨(bS), (ae), (wrap64 (m + 1)), (mset A ((rd (Zae q ((Zam c a).f0)) m), (Go.bits .or .i64 ((Zam c a).f1) z)) true), (eW), H', ⟨by have := ak.out; have := al.out; have := ay.out; omega⟩, ⟨by (with_reducible repeat (first | apply zE | apply zD | apply zB)); exact zA ap.out (fun _ hk => trivial)⟩, ⟨rP B.out⟩, ⟨bP d.out⟩, ⟨bP x.out⟩, ⟨bW⟩⟩
       rw [if_pos aI] at H
       have cb : ((rd (Zae q ((Zam c a).f0)) m) == a1) = true := beq_iff_eq.mpr aI
       have cc : ((rd (Zae q ((Zam c a).f0)) m) != a1) = false := bne_eq_false_iff_eq.mpr aI
       clear aI
       obtain ⟨eh, H⟩ := gE H
       obtain ⟨ei, H⟩ := gE H
       obtain ⟨bT, bs⟩ := nm ((ae.set ((Go.bits .or .i64 ((Zam c a).f1) z) : Int).toNat true) : List Bool)
       rw [← bs.out] at H
       have H' := mA H
       clear H
       have ej := P.out
       have ek := y.out
       have el := I.out
       have em := E.out
       have dx : wc.cell? ⟨l, 0, none⟩ = some (.int .i64 (rd (Zae q ((Zam c a).f0)) m)) := bc u 0
       have dy : wc.cell? ⟨l, 1, none⟩ = some (.int .i64 (Go.bits .or .i64 ((Zam c a).f1) z)) := bc u 1
       have dz := Zaa u.out 0
       have dA := Zaa u.out 1
       go_wp2_with (first | ((with_reducible refine gate_mset (t := 108) rfl ?_); refine msetSP (eK := (fun p_ : Int × Int => Value.agg #[.int .i64 p_.1, .int .i64 p_.2])) (eV := Value.bool) (g := Y) (L := A) ((rd (Zae q ((Zam c a).f0)) m), (Go.bits .or .i64 ((Zam c a).f1) z)) true (mkeyP_ii Tryd.underlying106 (by kernel_rfl) rfl rfl rfl rfl rfl rfl Tryd.underlying2 Tryd.underlying2) (bP x.out) Tryd.underlying108 ?_; intro eE hbk hg; replace s := mA (Kd.R_mset (rP s.out) (bP x.out) hg); replace B := mA (Kd.R_mset (rP B.out) (bP x.out) hg); replace d := mA (Zay (g := D) (o := .cells #[.int .i64 O, .int .i64 X, .slice aa W.length ab, .slice (some Z) q.length ac] 66 (0, 0)) (bP d.out) hg (fun e_ => ah.out (Option.some.inj e_))); replace x := mA (hbk); replace u := mA (Zay (g := l) (o := .cells #[.int .i64 (rd (Zae q ((Zam c a).f0)) m), .int .i64 (Go.bits .or .i64 ((Zam c a).f1) z)] 106 (0, 0)) (bP u.out) hg (fun e_ => I.out (Option.some.inj e_))); replace HB := mA ((fun h_ => Below.grown h_ hg h_.size (fun k_ e_ => by injection e_ with e_; rw [← e_]; exact bl.out)) (bW)); clear hg hbk; obtain ⟨dB, dC⟩ := Zcg u.out; obtain ⟨dD, dE⟩ := frz2 u.out) | ((with_reducible refine Zch (b := .append) (xs := #[.tmp 61, .tmp 63]) rfl ?_); at_builtin; refine yO k106 (w0 := w) w.heap.size rfl (.tmp 61) (.tmp 63) 107 106 (.agg #[(.int .i64 0), (.int .i64 0)]) 16 rfl Tryd.underlying107 info106 rfl (by decide) (by omega) (.slice (some G) c.length aG) c (⟨(rd (Zae q ((Zam c a).f0)) m), (Go.bits .or .i64 ((Zam c a).f1) z)⟩ : S106) [.int .i64 (rd (Zae q ((Zam c a).f0)) m), .int .i64 (Go.bits .or .i64 ((Zam c a).f1) z)] (fun k_ => k_ ≠ l) (fun _ => False) rfl rfl ?aP (fun _ hk => hk.elim) ?aF ?aO ?aB ?aS ?aL ?_; (case aP => exact k106_mkM _ _ _ (⟨(rd (Zae q ((Zam c a).f0)) m), (Go.bits .or .i64 ((Zam c a).f1) z)⟩ : S106)); (case aB => exact (bW)); (case aF => exact (fun k_ hk => yW (g := l) (o := .cells #[.int .i64 (rd (Zae q ((Zam c a).f0)) m), .int .i64 (Go.bits .or .i64 ((Zam c a).f1) z)] 106 (0, 0)) (bP u.out) k_ hk)); (case aO => exact (rP s.out)); (case aS => exact (Zao (bW))); (case aL => have := bq.out; omega); intro cR cD ho hb hg hat; rw [← br.out] at ho; replace B := mA (zW (rP B.out) (zV (rP s.out)) (by decide) hg); replace d := mA (Zay (g := D) (o := .cells #[.int .i64 O, .int .i64 X, .slice aa W.length ab, .slice (some Z) q.length ac] 66 (0, 0)) (bP d.out) hg (zM s.out d.out (by decide))); replace x := mA (Zay (g := Y) (o := mobj (fun p_ : Int × Int => Value.agg #[.int .i64 p_.1, .int .i64 p_.2]) Value.bool (mset A ((rd (Zae q ((Zam c a).f0)) m), (Go.bits .or .i64 ((Zam c a).f1) z)) true)) (bP x.out) hg (Kd.R_nem s.out x.out)); replace u := mA (Zay (g := l) (o := .cells #[.int .i64 (rd (Zae q ((Zam c a).f0)) m), .int .i64 (Go.bits .or .i64 ((Zam c a).f1) z)] 106 (0, 0)) (bP u.out) hg (zT s.out (fun _ hk => hk))); replace HB := mA (hb); have ap := mA (ho); clear s ho hb hg hat; obtain ⟨dG, dH⟩ := Zcg u.out; obtain ⟨dI, dJ⟩ := frz2 u.out; have bU : 0 ≤ ((Go.bits .or .i64 ((Zam c a).f1) z) : Int) := ofD; have bV : ((Go.bits .or .i64 ((Zam c a).f1) z) : Int) < ((ae.length : Int) : Int) := ofD; obtain ⟨a6, bX, bY, bZ, cS, ez, b0⟩ := yC B.out (by omega); (first | cases bY | (injection bY with ea_ en_ ec_; (first | subst ea_ | (injection ea_ with ea_; subst ea_)); subst ec_; clear en_)); have cT := mA bZ; have eA := mA b0; clear bZ cS b0; obtain ⟨dP, dQ⟩ := zI false B.out ((Go.bits .or .i64 ((Zam c a).f1) z) : Int) bU bV; replace bU := eq_true bU; replace bV := eq_true bV; obtain ⟨en, eo⟩ := zI false B.out ((Go.bits .or .i64 ((Zam c a).f1) z) : Int) (ofD) (ofD); have bg := zS B.out ((Go.bits .or .i64 ((Zam c a).f1) z) : Int) true) | ((with_reducible refine Zbp (t := 4) (p := 72) rfl ?_); refine Zc8 (t := 4) (p := 72) (v := ?vo_w54) (w1 := (cD.setCell ⟨a6, ((Go.bits .or .i64 ((Zam c a).f1) z) : Int).toNat, none⟩ (.bool true))) ?hg ?ho ?hn ?hr ?_; (case ho => rfl); (case hg => rfl); (case hn => rfl); (case hr => first | (go_simp; done) | (go_simp; rfl)); intro b1 hw; have hg : cD.grownBy b1 (some a6) := (by rw [hw]; exact bg.2); have hp_ : Kd.R Kd.bool 4 b1 w.heap.size (fun _ => True) (.slice (some ⟨a6, 0, none⟩) ae.length bX) bT := (by rw [hw, bs.out]; exact bg.1); clear bg; replace d := mA (Zay (g := D) (o := .cells #[.int .i64 O, .int .i64 X, .slice aa W.length ab, .slice (some Z) q.length ac] 66 (0, 0)) (bP d.out) hg (zM B.out d.out (by decide))); replace x := mA (Zay (g := Y) (o := mobj (fun p_ : Int × Int => Value.agg #[.int .i64 p_.1, .int .i64 p_.2]) Value.bool (mset A ((rd (Zae q ((Zam c a).f0)) m), (Go.bits .or .i64 ((Zam c a).f1) z)) true)) (bP x.out) hg (Kd.R_nem B.out x.out)); replace u := mA (Zay (g := l) (o := .cells #[.int .i64 (rd (Zae q ((Zam c a).f0)) m), .int .i64 (Go.bits .or .i64 ((Zam c a).f1) z)] 106 (0, 0)) (bP u.out) hg (zM B.out u.out (by decide))); replace ap := mA (zW (v := (.slice (some ⟨a6, 0, none⟩) ae.length bX)) (rP ap.out) (zV B.out) (by decide) hg); replace B := mA (hp_); replace HB := mA ((by rw [hw]; exact Zbs (HB.out) cT.out : Below w.heap.size w b1)); clear hg hw hp_))
       go_roundg bf
       case measure => have := ak.out; have := al.out; have := ay.out; omega
       case rel => exact ⟨(bS), (bT), (wrap64 (m + 1)), (mset A ((rd (Zae q ((Zam c a).f0)) m), (Go.bits .or .i64 ((Zam c a).f1) z)) true), (eW), H', ⟨by have := ak.out; have := al.out; have := ay.out; omega⟩, ⟨by (with_reducible repeat (first | apply zE | apply zD | apply zB)); exact zA ap.out (fun _ hk => trivial)⟩, ⟨rP B.out⟩, ⟨bP d.out⟩, ⟨bP x.out⟩, ⟨bW⟩⟩
end Go.Proofs.YtlmicipfikammaaDoor.P
end
