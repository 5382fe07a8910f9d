import Derived.Test.YtgindgodfcfgkaaDoorCFnExactLettersCommute9
set_option maxHeartbeats 8000000
set_option maxRecDepth 100000
section M0
namespace Go.Proofs.YtgindgodfcfgkaaDoor.P
open Go.RowKit Go.Proofs.YtgindgodfcfgkaaDoor.Sh Go.Proofs.YtgindgodfcfgkaaDoorW.PrintWords Go.Proofs.YtgindgodfcfgkaaDoorW.PrintLast Go.Proofs.YtgindgodfcfgkaaDoorW.PrintMore
open Kd
attribute [local go_sem] Zcd Zca Zcn Zcm Zb1 Zb2 Zcc Zce   -- for this text's walks alone
set_option linter.unusedVariables false
set_option linter.unusedSimpArgs false
def Zcg.l0 : Nat → Int → List Int → Option (List Int)
 | 0, _, _ => none
 | k + 1, x0, x3 => if x0 = 0 then (some x3) else ((impl_least.f x0).bind fun a => (if x3.length < 17592186044416 then (Zcg.l0 k (Go.bits .and .i64 x0 (wrap64 (x0 - 1))) (x3 ++ [a])) else (none)))
def Zcg.f (k : Nat) (a0 : Int) : Option (List Int) := Zcg.l0 k a0 (([] : List Int))
theorem Zcg.calls (k : Nat) (a0 : Int) (r : List Int) (w : World) (h : Zcg.f k a0 = some r) (hTab : Tab w) :
  Calls Tryd.prog 76 #[.int .i64 a0] w fun e w' => ∃ s : Value, e = .returned (s) ∧ Kd.R (Kd.int .i64) 2 w' w.heap.size (fun _ => True) s r ∧ Below w.heap.size w w' := by
 have HTab := mA hTab
 clear hTab
 have HB := mA (Below.refl w.heap.size w)
 unfold Zcg.f at h
 have H := h
 clear h
 obtain ⟨n, d⟩ : ∃ y_ : List Int, y_ = (([] : List Int)) := ⟨_, rfl⟩
 replace H : (Zcg.l0 k a0 n) = some r := by rw [d]; with_reducible exact H
 have m := mA d
 clear d
 have H' := mA H
 clear H
 go_enter Tryd.func76, Tryd.ntmps76
 go_wp2_with (first | ((with_reducible refine Zap (N := 4) rfl ?_); refine yT (Kd.int .i64) _ 2 ?hg (N := 4) ?hd (xs := ([] : List Int)) (inner := []) (ok := fun _ => True) (okp := fun _ => True) ?hr ?hp (fun _ hk => hk) trivial (Below.refl _ _) (Nat.le_refl _) (by simp) ?_; (case hd => rfl); (case hg => rfl); (case hr => first | (go_simp; done) | (go_simp; rfl)); (case hp => exact (Reps.none _ _)); intro A w2 j hb hg_ hnew_; clear hg_ hnew_; (first | rw [← m.out] at j | (simp only [Int.reduceToNat] at j; rw [← m.out] at j)); have o := mA (zP j (Zag (bW))); replace HB := mA (Zac (bW) hb); clear hb j))
 go_loopg [0, 3] k (fun kq v0 v3 w' => ∃ (a : Int) (c : List Int), v0 = .int .i64 a ∧ Zaa (Zcg.l0 kq a c = some r) ∧ Zaa (kq ≤ k) ∧ Zaa (Kd.R (Kd.int .i64) 2 w' w.heap.size (fun _ => True) v3 c) ∧ Zaa (Below w.heap.size w w'))
 case atStart => exact ⟨(a0), (n), (eW), H', ⟨Nat.le_refl _⟩, ⟨rP o.out⟩, ⟨bW⟩⟩
 case round =>
  clear H'
  obtain ⟨a, c, rfl, HA, t, l, HB⟩ := hrel
  cases gk with
  | zero => exact absurd HA.out (by simp [Zcg.l0])
  | succ k1 =>
   have H := HA.out
   clear HA
   simp only [Zcg.l0] at H
   by_cases c4 : a = 0
   ·rw [if_pos c4] at H
    have v : (a == 0) = true := beq_iff_eq.mpr c4
    have x : (a != 0) = false := bne_eq_false_iff_eq.mpr c4
    clear c4
    obtain rfl := oI H
    go_wp2
    go_ret
    exact ⟨_, eW, (rP l.out), bW⟩
   rw [if_neg c4] at H
   have v : (a == 0) = false := beq_eq_false_iff_ne.mpr c4
   have x : (a != 0) = true := bne_iff_ne.mpr c4
   replace H := bE H
   obtain ⟨g, u, H⟩ := H
   have A5 := mA u
   clear u
   by_cases c6 : c.length < 17592186044416; rotate_left
   ·rw [if_neg c6] at H
    exact absurd H (by simp)
   rw [if_pos c6] at H
   have y := mA c6
   clear c6
   obtain ⟨z, i⟩ : ∃ y_ : List Int, y_ = (c ++ [g]) := ⟨_, rfl⟩
   rw [← i] at H
   have p := mA i
   clear i
   have H' := mA H
   clear H
   go_wp2_with (first | ((with_reducible refine Zav (f := 83) rfl ?_); refine Zbo (some 13) Tryd.func83 #[.int .i64 a] ?_; (with_reducible refine (impl_least.calls a g _ A5.out (tabW HTab.out)).mono ?_); rintro e w' ⟨rfl, ⟨nd, rfl⟩⟩; refine ⟨_, rfl, ?_⟩) | ((with_reducible refine Zbl (b := .append) (xs := #[.tmp 11, .tmp 14]) rfl ?_); at_builtin; refine xI (Kd.int .i64) (w0 := w) w.heap.size rfl (.tmp 11) (.tmp 14) 22 2 (.int .i64 0) 8 rfl Tryd.underlying22 info2 rfl (by decide) (by omega) u3 c g [.int .i64 g] (fun _ => True) (fun _ => False) rfl rfl ?aP (fun _ hk => hk.elim) ?aF ?aO ?aB ?aS ?aL ?_; (case aP => exact rfl); (case aB => exact (bW)); (case aF => exact (fun _ _ => trivial)); (case aO => exact (rP l.out)); (case aS => exact (Zag (bW))); (case aL => have := y.out; omega); intro B w7 ho hb hg hat; rw [← p.out] at ho; replace HB := mA (hb); have q := mA (ho); clear l ho hb hg hat))
   go_roundg k1
   case measure => have := t.out; omega
   case rel => exact ⟨(Go.bits .and .i64 a (wrap64 (a - 1))), (z), (eW), H', ⟨by have := t.out; omega⟩, ⟨rP q.out⟩, ⟨bW⟩⟩
mutual
def Za5.l0 : Nat → List Int → List Int → Int → Int → Option (List Int)
 | 0, _, _, _, _ => none
 | k + 1, x3, b, d, a => if a < d then (if 0 ≤ a then (if a < (b.length : Int) then ((Zcg.f k (rd b a)).bind fun c => (Za5.l1 k x3 a b d a c (c.length : Int) 0)) else (none)) else (none)) else (some x3)
def Za5.l1 : Nat → List Int → Int → List Int → Int → Int → List Int → Int → Int → Option (List Int)
 | 0, _, _, _, _, _, _, _, _ => none
 | k + 1, x3, x4, c, d, e, b, g, a => if a < g then (if 0 ≤ a then (if a < (b.length : Int) then (if 0 ≤ (rd b a) then (if (rd b a) < (x3.length : Int) then ((Zdl.f x4).bind fun h => (Za5.l1 k (x3.set ((rd b a) : Int).toNat (Go.bits .or .i64 (rd x3 (rd b a)) h)) x4 c d e b g (wrap64 (a + 1)))) else (none)) else (none)) else (none)) else (none)) else (Za5.l0 k x3 c d (wrap64 (e + 1)))
end
def Za5.f (k : Nat) (l0 : List Int) : Option (List Int) := if 0 ≤ (l0.length : Int) then (if ((l0.length : Int) : Int).toNat ≤ 35184372088832 then (Za5.l0 k (List.replicate ((l0.length : Int) : Int).toNat 0) l0 (l0.length : Int) 0) else (none)) else (none)
def Za5.T8 : Bool × List (List Nat × List Nat) := (true, [([], []), ([], []), ([0, 1], [0, 1]), ([2], [2]), ([], []), ([4], [4]), ([3, 5], [3, 5]), ([0, 1, 0, 1, 2, 3, 4, 5, 6], [0, 1]), ([7, 6, 5, 0, 1, 2, 3, 4, 5, 6], [6, 7])])
def Za5.B8 : List Nat := [0, 0, 3, 7, 0, 16, 63, 127, 255]
theorem Za5.tab8 : rtab .any (opsOf Tryd.f62 8) = Za5.T8 := by kernel_rfl
theorem Za5.bits8 : Zc0 Za5.T8.2 Za5.B8 = true := by kernel_rfl
theorem Za5.calls (k : Nat) (A0 : Option Addr) (c0 : Nat) (l0 : List Int) (r : List Int) (w : World) (ao : Kd.C (Kd.int .i64) w A0 l0.length l0) (ap : l0.length ≤ c0) (h : Za5.f k l0 = some r) (hTab : Tab w) :
  Calls Tryd.prog 62 #[.slice A0 l0.length c0] w fun e w' => ∃ aq : Value, e = .returned (aq) ∧ Kd.R (Kd.int .i64) 2 w' w.heap.size (fun _ => True) aq r ∧ Below w.heap.size w w' := by
 have HTab := mA hTab
 clear hTab
 have aL := mA ao
 have a5 := mA ap
 clear ao ap
 have HB := mA (Below.refl w.heap.size w)
 unfold Za5.f at h
 have H := h
 clear h
 by_cases c2 : 0 ≤ (l0.length : Int); rotate_left
 ·rw [if_neg c2] at H
  exact absurd H (by simp)
 rw [if_pos c2] at H
 have aw := eq_true c2
 have ax := dT c2
 clear c2
 by_cases c3 : ((l0.length : Int) : Int).toNat ≤ 35184372088832; rotate_left
 ·rw [if_neg c3] at H
  exact absurd H (by simp)
 rw [if_pos c3] at H
 have ay := eq_true c3
 have az := dT c3
 clear c3
 obtain ⟨aA, q⟩ : ∃ y_ : List Int, y_ = (List.replicate ((l0.length : Int) : Int).toNat 0) := ⟨_, rfl⟩
 rw [← q] at H
 have J := mA q
 clear q
 have H' := mA H
 clear H
 go_enter Tryd.func62, Tryd.ntmps62
 go_wp2_with (first | ((with_reducible refine Zap (N := 10) rfl ?_); refine xO (Kd.int .i64) _ 2 rfl (N := 10) rfl 22 _ _ rfl (l0.length : Int) rfl rfl Tryd.underlying22 (.int .i64 0) 8 info2 rfl (by decide) (by omega) 0 (ok := fun _ => True) (okp := fun _ => True) rfl (fun _ hk => hk) trivial (ofD) (Nat.le_trans (Nat.mul_le_mul_right _ (ofD : (l0.length : Int).toNat ≤ 35184372088832)) (by omega)) (Below.refl _ _) (Nat.le_refl _) ?_; intro A w4 z hb hg_ hnew_; clear hg_ hnew_; (first | rw [← J.out] at z | (simp only [Int.reduceToNat] at z; rw [← J.out] at z)); have ak := mA (zP z (Zag (bW))); replace HB := mA (Zac (bW) hb); clear hb z))
 go_loopg [13] k (fun kq v13 w' => ∃ (s : List Int) (c : Int), v13 = .int .i64 c ∧ Zaa (Za5.l0 kq s l0 (l0.length : Int) c = some r) ∧ Zaa (kq ≤ k) ∧ Zaa (Kd.R (Kd.int .i64) 2 w' w.heap.size (fun _ => True) A s) ∧ Zaa (Below w.heap.size w w'))
 case atStart => exact ⟨(aA), (0), (eW), H', ⟨Nat.le_refl _⟩, ⟨rP ak.out⟩, ⟨bW⟩⟩
 case round =>
  clear H' aw ax ay az
  obtain ⟨s, c, rfl, HA, L, d, HB⟩ := hrel
  cases gk with
  | zero => exact absurd HA.out (by simp [Za5.l0])
  | succ k1 =>
   have H := HA.out
   clear HA
   simp only [Za5.l0] at H
   by_cases c6 : c < (l0.length : Int); rotate_left
   ·rw [if_neg c6] at H
    have X := dF c6
    clear c6
    obtain rfl := oI H
    go_wp2
    go_ret
    exact ⟨_, eW, (rP d.out), bW⟩
   rw [if_pos c6] at H
   have X := dT c6
   clear c6
   by_cases c7 : 0 ≤ c; rotate_left
   ·rw [if_neg c7] at H
    exact absurd H (by simp)
   rw [if_pos c7] at H
   have aB := dT c7
   clear c7
   by_cases c8 : c < (l0.length : Int); rotate_left
   ·rw [if_neg c8] at H
    exact absurd H (by simp)
   rw [if_pos c8] at H
   have aC := dT c8
   clear c8
   replace H := bE H
   obtain ⟨b, ar, H⟩ := H
   have A9 := mA ar
   clear ar
   have H' := mA H
   clear H
   have t : 0 ≤ (c : Int) := ofD
   have u : c < (l0.length : Int) := ofD
   obtain ⟨aS, aD, j⟩ := zI aL.out c t u
   cases aD
   replace j := (HB.out.cell (wB w j)).trans j
   replace t := eq_true t
   replace u := eq_true u
   go_wp2_with (first | ((with_reducible refine Zav (f := 76) rfl ?_); refine Zbo (some 19) Tryd.func76 #[.int .i64 (rd l0 c)] ?_; (with_reducible refine (Zcg.calls k1 (rd l0 c) b _ A9.out (tabW HTab.out)).mono ?_); rintro e a6 ⟨aY, rfl, Y, hb⟩; refine ⟨_, rfl, ?_⟩; have M := mA (zP (zS Y (zG (rP d.out))) (Zag (bW))); replace d := mA (zR (rP d.out) (zH Y) hb); replace HB := mA (Zac (bW) hb); (try clear hb); (try clear hb2); (try clear hk); (try clear hi); (try clear Y); obtain ⟨aa, ab, aE⟩ := zJ M.out; subst aE))
   go_loopg [21] k1 (fun kq v21 w' => ∃ (g : List Int) (a : Int), v21 = .int .i64 a ∧ Zaa (Za5.l1 kq g c l0 (l0.length : Int) c b (b.length : Int) a = some r) ∧ Zaa (kq ≤ k1) ∧ Zaa (Kd.R (Kd.int .i64) 2 w' w.heap.size (fun k_ => some k_ ≠ ((.slice aa b.length ab) : Value).ownBlock) A g) ∧ Zaa (Kd.R (Kd.int .i64) 2 w' w.heap.size (fun k_ => some k_ ≠ (A : Value).ownBlock) (.slice aa b.length ab) b) ∧ Zaa (Below w.heap.size w w'))
   case atStart => exact ⟨(s), (0), (eW), H', ⟨Nat.le_refl _⟩, ⟨by (with_reducible repeat (first | apply zC | apply zD | apply zA)); exact zB d.out (fun _ hk => hk.2)⟩, ⟨by (with_reducible repeat (first | apply zC | apply zD | apply zA)); exact zB M.out (fun _ hk => hk.2)⟩, ⟨bW⟩⟩
   case round =>
    clear H' X aB aC j t u
    obtain ⟨g, a, rfl, HA, O, d, l, HB⟩ := hrel
    cases gk with
    | zero => exact absurd HA.out (by simp [Za5.l1])
    | succ k2 =>
     have H := HA.out
     clear HA
     simp only [Za5.l1] at H
     by_cases o : a < (b.length : Int); rotate_left
     ·rw [if_neg o] at H
      have al := dF o
      clear o
      have H' := mA H
      clear H
      go_wp2
      go_roundg k2
      case measure => have := L.out; have := O.out; omega
      case rel => exact ⟨(g), (wrap64 (c + 1)), (eW), H', ⟨by have := L.out; have := O.out; omega⟩, ⟨by (with_reducible repeat (first | apply zC | apply zD | apply zA)); exact zB d.out (fun _ hk => trivial)⟩, ⟨bW⟩⟩
     rw [if_pos o] at H
     have al := dT o
     clear o
     by_cases P : 0 ≤ a; rotate_left
     ·rw [if_neg P] at H
      exact absurd H (by simp)
     rw [if_pos P] at H
     have aT := dT P
     clear P
     by_cases T : a < (b.length : Int); rotate_left
     ·rw [if_neg T] at H
      exact absurd H (by simp)
     rw [if_pos T] at H
     have aU := dT T
     clear T
     by_cases U : 0 ≤ (rd b a); rotate_left
     ·rw [if_neg U] at H
      exact absurd H (by simp)
     rw [if_pos U] at H
     have aV := dT U
     clear U
     by_cases W : (rd b a) < (g.length : Int); rotate_left
     ·rw [if_neg W] at H
      exact absurd H (by simp)
     rw [if_pos W] at H
     have aW := dT W
     clear W
     replace H := bE H
     obtain ⟨x, ac, H⟩ := H
     have aM := mA ac
     clear ac
     obtain ⟨aF, y⟩ : ∃ y_ : List Int, y_ = (g.set ((rd b a) : Int).toNat (Go.bits .or .i64 (rd g (rd b a)) x)) := ⟨_, rfl⟩
     rw [← y] at H
     have am := mA y
     clear y
     have H' := mA H
     clear H
     have B : 0 ≤ (a : Int) := ofD
     have D : a < (b.length : Int) := ofD
     obtain ⟨aX, aG, aK⟩ := zI (zE l.out).2.2 a B D
     cases aG
     replace B := eq_true B
     replace D := eq_true D
     try go_wp2
     replace d := mA (zA d.out)
     replace l := mA (zA l.out)
     replace HB := mA (Za0 HB.out)
     obtain ⟨aZ, a0, ad⟩ := zJ d.out
     (first | subst ad | (injection ad with au aN av; have aO := au.symm; have aP := av.symm; clear au aN av; subst aO; subst aP))
     have E : 0 ≤ ((rd b a) : Int) := ofD
     have G : (rd b a) < (g.length : Int) := ofD
     obtain ⟨an, aH, m⟩ := zI (zE d.out).2.2 (rd b a) E G
     cases aH
     replace E := eq_true E
     replace G := eq_true G
     refine Zcq (n := 9) (S := fun w' => w'.cell? (an.add ((rd b a)).toNat) = some (.int .i64 (rd g (rd b a)))) (ds := [8]) #[false, false, false, false, false, false, false, false, false] (by kernel_rfl) rfl rfl (m) (fun hHeld => ?_); refine Zb7 Za5.tab8 Za5.bits8 (fun HT_ HW_ => ?_)
     generalize wr.drew = w19 at d l HB m hHeld ⊢
     refine Zan (i := 0) (N := some 25) (Zai HT_.out (by kernel_rfl)) ?_
     refine Zan (i := 1) (N := some 26) (Zai HT_.out (by kernel_rfl)) ?_
     refine Zan (i := 2) (N := some 27) (Zai HT_.out (by kernel_rfl)) ?_
     refine Zan (i := 4) (N := some 29) (Zai HT_.out (by kernel_rfl)) ?_
     refine take_ (i := 3) (N := some 28) (v := ?_) (a' := ?_) #[true, true, true, true, true, false, false, false, false] rfl rfl (Zaz HT_.out HW_.out (by kernel_rfl)) (fun _ _ _ h => h) (Or.inl ⟨by rfl, ?_⟩) hHeld ?_ ?_
     rotate_left
     ·intro w' s0
      go_simp
      with_reducible rfl
     rotate_left
     ·simp only [Act.put, List.setIfInBounds_toArray, List.set_cons_zero, List.set_cons_succ, i64_w, i32_w]
      rfl
     refine one_ (i := 5) (N := some 30) #[true, true, true, true, true, true, false, false, false] rfl rfl (Za9 HT_.out (by kernel_rfl)) (by decide) (fun K hK => ?_)
     refine Zb6 Tryd.func75 (by kernel_rfl) rfl #[.int .i64 c] (by rfl) rfl rfl (by (try simp only [List.map_toArray, List.map_cons, List.map_nil]); first | done | rfl | (simp only [List.length_drop, List.length_take]; rfl)) ?_
     with_reducible refine (Zdl.calls c x _ aM.out).mono ?_
     rintro e w' ⟨rfl, ⟨nd, rfl⟩⟩
     refine ⟨_, rfl, ?_⟩
     have ae : 0 ≤ ((rd b a) : Int) := ofD
     have af : ((rd b a) : Int) < ((g.length : Int) : Int) := ofD
     obtain ⟨ag, a1, ah, ai, aI, a2, aj⟩ := yV d.out (by omega)
     (first | cases ah | (injection ah with ea_ en_ ec_; (first | subst ea_ | (injection ea_ with ea_; subst ea_)); subst ec_; clear en_))
     have a3 := mA ai
     have a4 := mA aj
     clear ai aI aj
     (first | simp only [Zco] at m | skip)
     obtain ⟨aQ, aR⟩ := yH 0 d.out ((rd b a) : Int) ae af
     replace ae := eq_true ae
     replace af := eq_true af
     have I := Kd.R_putn d.out ((rd b a) : Int) (Go.bits .or .i64 (rd g (rd b a)) x)
     rw [← am.out] at I
     have aJ := mA I
     clear I
     refine hK.out _ _ (hHeld) (fun hHeld => ?_)
     clear hK K
     refine putS 30 ?_
     refine Zan (i := 6) (N := some 31) (Zai HT_.out (by kernel_rfl)) ?_
     refine Zan (i := 7) (N := some 32) (Zai HT_.out (by kernel_rfl)) ?_
     refine last_ (i := 8) (N := none) #[true, true, true, true, true, true, true, true, true] rfl rfl (Za9 HT_.out (by kernel_rfl)) (by decide) (fun K hK => ?_)
     refine skip_ (w1 := ?_) (by rfl) rfl ?_ ?_
     rotate_left
     ·go_simp
      rfl
     refine hK.out _ _ ?_
     clear hK K
     refine Zcz (Zct HT_.out (by kernel_rfl)) ?_
     try go_wp2
     go_roundg k2
     case measure => have := L.out; have := O.out; omega
     case rel => exact ⟨(aF), (wrap64 (a + 1)), (eW), H', ⟨by have := L.out; have := O.out; omega⟩, ⟨rP aJ.out⟩, ⟨by (with_reducible repeat (first | apply zC | apply zD | apply zA)); exact zB (zQ (p := ⟨ag, ((rd b a) : Int).toNat, none⟩) (zB l.out (fun k_ hk => (⟨hk, fun e_ => hk (by rw [e_]; rfl)⟩ : _ ∧ k_ ≠ ag))) (fun _ hk => hk.2) (.int .i64 (Go.bits .or .i64 (rd g (rd b a)) x))) (fun _ hk => hk.1)⟩, ⟨bW⟩⟩
end Go.Proofs.YtgindgodfcfgkaaDoor.P
end M0
section M1
namespace Go.Proofs.YtgindgodfcfgkaaDoor.P
open Go.RowKit Go.Proofs.YtgindgodfcfgkaaDoor.Sh Go.Proofs.YtgindgodfcfgkaaDoorW.PrintWords Go.Proofs.YtgindgodfcfgkaaDoorW.PrintLast Go.Proofs.YtgindgodfcfgkaaDoorW.PrintMore
open Kd
attribute [local go_sem] Zcd Zca Zcn Zcm Zb1 Zb2 Zcc Zce   -- for this text's walks alone
set_option linter.unusedVariables false
set_option linter.unusedSimpArgs false
mutual
def Zax.j0 : Nat → Bool → Int → List Int → Option (Bool)
 | 0, _, _, _ => none
 | k + 1, d, b, a => if d = true then (some false) else ((Za5.f k a).bind fun c => (Zax.l0 k c (c.length : Int) 0 b a))
def Zax.l0 : Nat → List Int → Int → Int → Int → List Int → Option (Bool)
 | 0, _, _, _, _, _ => none
 | k + 1, c, e, a, d, b => if a < e then (if 0 ≤ a then (if a < (c.length : Int) then (if a < (b.length : Int) then (if (rd c a) = (rd b a) then ((Zde.f (rd c a) a).bind fun g => (if g = true then (Zax.l0 k c e (wrap64 (a + 1)) d b) else (some false))) else (some false)) else (none)) else (none)) else (none)) else (some true)
end
def Zax.f (k : Nat) (a : Int) (b : List Int) : Option (Bool) := (Zbv.f a 0 8).bind fun c => (if c = true then ((Zbn.f b).bind fun d => (if d = a then ((Zdg.f b).bind fun e => (Zax.j0 k (!e) a b)) else (Zax.j0 k true a b))) else (Zax.j0 k true a b))
def Zax.T1 : Bool × List (List Nat × List Nat) := (true, [([], []), ([0], [0]), ([1], [1]), ([2], [2]), ([3, 2], [3]), ([4], [4]), ([5, 4], [4, 5]), ([6, 4, 4], [4, 6]), ([4], [4]), ([8, 4], [4, 8]), ([7, 9, 4], [4, 7, 9]), ([4, 10], [4, 10]), ([11, 7], [11]), ([12], [12]), ([13, 12], [12, 13]), ([14, 12, 12], [12, 14]), ([15, 12], [12, 15]), ([12, 16], [12, 16])])
def Zax.B1 : List Nat := [0, 1, 3, 7, 15, 31, 63, 127, 31, 287, 1023, 2047, 4095, 8191, 16383, 32767, 65535, 131071]
theorem Zax.tab1 : rtab .any (opsOf Tryd.f39 1) = Zax.T1 := by kernel_rfl
theorem Zax.bits1 : Zc0 Zax.T1.2 Zax.B1 = true := by kernel_rfl
theorem Zax.calls (k : Nat) (d : Int) (m : Option Addr) (o : Nat) (c : List Int) (r : Bool) (w : World) (L : Kd.C (Kd.int .i64) w m c.length c) (M : c.length ≤ o) (h : Zax.f k d c = some r) (hTab : Tab w) :
  Calls Tryd.prog 39 #[.agg #[.int .i64 d, .slice m c.length o]] w fun e w' => e = .returned (.bool r) ∧ Below w.heap.size w w' := by
 have HTab := mA hTab
 clear hTab
 have aU := Tryd.underlying32
 have v := mA L
 have y := mA M
 clear L M
 have HB := mA (Below.refl w.heap.size w)
 unfold Zax.f at h
 have H := h
 clear h
 have af := mA H
 clear H
 go_enter Tryd.func39, Tryd.ntmps39
 go_upto_region 1 with (first | ((with_reducible refine Zap (N := 1) rfl ?_); refine boxS (N := 1) (cs := #[.int .i64 d, .slice m c.length o]) (t := 32) ?_; intro g hg w3 hbox hb; have a := mA (hbox); have aP := geW (w := w) hg; have aQ := geW (w := w) hg; replace HB := mA (Zac (bW) hb); clear hb hbox hg))
 (try simp only [Act.put, List.setIfInBounds_toArray, List.set_cons_zero, List.set_cons_succ])
 go_cut [22] (fun v22 wc => ∃ (kq : Nat) (z : Bool), v22 = .bool z ∧ Zaa (Zax.j0 kq z d c = some r) ∧ Zaa (kq ≤ k) ∧ Zaa (wc.heap[g]? = some (.cells #[.int .i64 d, (.slice m c.length o)] 32 (0, 0))) ∧ Zaa (Below w.heap.size w wc))
 case first =>
  have H := af.out
  clear af
  replace H := bE H
  obtain ⟨aw, an, H⟩ := H
  have A4 := mA an
  clear an
  by_cases c5 : aw = true; rotate_left
  ·replace c5 := Bool.eq_false_iff.mpr c5
   subst c5
   rw [iF] at H
   have H' := mA H
   clear H
   try go_wp2
   replace a := mA (Zad a.out)
   replace HB := mA (Za0 HB.out)
   refine Zcq (n := 18) (S := fun w' => w'.cell? ⟨g, 0, none⟩ = some (.int .i64 d) ∧ w'.cell? ⟨g, 1, none⟩ = some (.slice m c.length o)) (ds := []) #[false, false, false, false, false, false, false, false, false, false, false, false, false, false, false, false, false, false] (by kernel_rfl) rfl rfl ⟨bc a 0, bc a 1⟩ (fun hHeld => ?_); refine Zb7 Zax.tab1 Zax.bits1 (fun HT_ HW_ => ?_)
   generalize w3.drew = w12 at a HB hHeld ⊢
   refine Zan (i := 0) (N := some 5) (Zai HT_.out (by kernel_rfl)) ?_
   refine Za8 (i := 1) (N := some 6) (Zaz HT_.out HW_.out (by kernel_rfl)) hHeld ?_
   refine one_ (i := 2) (N := some 7) #[true, true, true, false, false, false, false, false, false, false, false, false, false, false, false, false, false, false] rfl rfl (Za9 HT_.out (by kernel_rfl)) (by decide) (fun K hK => ?_)
   refine Zb6 Tryd.func59 (by kernel_rfl) rfl #[.int .i64 d, .int .i64 0, .int .i64 8] (by rfl) rfl rfl (by (try simp only [List.map_toArray, List.map_cons, List.map_nil]); first | done | rfl | (simp only [List.length_drop, List.length_take]; rfl)) ?_
   with_reducible refine (Zbv.calls d 0 8 false _ A4.out).mono ?_
   rintro e w' ⟨rfl, ⟨nd, rfl⟩⟩
   refine ⟨_, rfl, ?_⟩
   refine hK.out _ _ ⟨bc a 0, bc a 1⟩ (fun hHeld => ?_)
   clear hK K
   refine putS 7 ?_
   refine Zan (i := 3) (N := some 8) (Zai HT_.out (by kernel_rfl)) ?_
   refine Zan (i := 4) (N := some 9) (Zai HT_.out (by kernel_rfl)) ?_
   refine Zby (i := 5) (N := some 10) (Zai HT_.out (by kernel_rfl)) ?_
   refine Zby (i := 6) (N := some 11) (Zai HT_.out (by kernel_rfl)) ?_
   refine Zby (i := 7) (N := some 12) (Zai HT_.out (by kernel_rfl)) ?_
   refine Zby (i := 8) (N := some 13) (Zai HT_.out (by kernel_rfl)) ?_
   refine Zby (i := 9) (N := some 14) (Zai HT_.out (by kernel_rfl)) ?_
   refine Zby (i := 10) (N := some 15) (Zai HT_.out (by kernel_rfl)) ?_
   refine Zan (i := 11) (N := some 16) (Zai HT_.out (by kernel_rfl)) ?_
   refine Zan (i := 12) (N := some 17) (Zai HT_.out (by kernel_rfl)) ?_
   refine Zby (i := 13) (N := some 18) (Zai HT_.out (by kernel_rfl)) ?_
   refine Zby (i := 14) (N := some 19) (Zai HT_.out (by kernel_rfl)) ?_
   refine Zby (i := 15) (N := some 20) (Zai HT_.out (by kernel_rfl)) ?_
   refine Zby (i := 16) (N := some 21) (Zai HT_.out (by kernel_rfl)) ?_
   refine Zan (i := 17) (N := some 22) (Zai HT_.out (by kernel_rfl)) ?_
   refine Zcz (Zct HT_.out (by kernel_rfl)) ?_
   try go_wp2
   go_meet
   case rel => exact ⟨_, (true), (eW), H', ⟨by first | omega | exact Nat.le_refl _⟩, ⟨bP a.out⟩, ⟨bW⟩⟩
  subst c5
  rw [if_pos rfl] at H
  replace H := bE H
  obtain ⟨x, ao, H⟩ := H
  have A6 := mA ao
  clear ao
  by_cases c7 : x = d; rotate_left
  ·rw [if_neg c7] at H
   have B : (x == d) = false := beq_eq_false_iff_ne.mpr c7
   have ax : (x != d) = true := bne_iff_ne.mpr c7
   (first | rw [B] | (simp only [i64_w, i32_w]; rw [B]) | skip)
   have H' := mA H
   clear H
   try go_wp2
   replace a := mA (Zad a.out)
   replace HB := mA (Za0 HB.out)
   refine Zcq (n := 18) (S := fun w' => w'.cell? ⟨g, 0, none⟩ = some (.int .i64 d) ∧ w'.cell? ⟨g, 1, none⟩ = some (.slice m c.length o)) (ds := []) #[false, false, false, false, false, false, false, false, false, false, false, false, false, false, false, false, false, false] (by kernel_rfl) rfl rfl ⟨bc a 0, bc a 1⟩ (fun hHeld => ?_); refine Zb7 Zax.tab1 Zax.bits1 (fun HT_ HW_ => ?_)
   generalize w3.drew = w11 at a HB hHeld ⊢
   refine Zan (i := 0) (N := some 5) (Zai HT_.out (by kernel_rfl)) ?_
   refine Za8 (i := 1) (N := some 6) (Zaz HT_.out HW_.out (by kernel_rfl)) hHeld ?_
   refine one_ (i := 2) (N := some 7) #[true, true, true, false, false, false, false, false, false, false, false, false, false, false, false, false, false, false] rfl rfl (Za9 HT_.out (by kernel_rfl)) (by decide) (fun K hK => ?_)
   refine Zb6 Tryd.func59 (by kernel_rfl) rfl #[.int .i64 d, .int .i64 0, .int .i64 8] (by rfl) rfl rfl (by (try simp only [List.map_toArray, List.map_cons, List.map_nil]); first | done | rfl | (simp only [List.length_drop, List.length_take]; rfl)) ?_
   with_reducible refine (Zbv.calls d 0 8 true _ A4.out).mono ?_
   rintro e w' ⟨rfl, ⟨nd, rfl⟩⟩
   refine ⟨_, rfl, ?_⟩
   refine hK.out _ _ ⟨bc a 0, bc a 1⟩ (fun hHeld => ?_)
   clear hK K
   refine putS 7 ?_
   refine Zan (i := 3) (N := some 8) (Zai HT_.out (by kernel_rfl)) ?_
   refine Zan (i := 4) (N := some 9) (Zai HT_.out (by kernel_rfl)) ?_
   refine Zan (i := 5) (N := some 10) (Zai HT_.out (by kernel_rfl)) ?_
   refine Zan (i := 8) (N := some 13) (Zai HT_.out (by kernel_rfl)) ?_
   refine Za8 (i := 6) (N := some 11) (Zaz HT_.out HW_.out (by kernel_rfl)) hHeld ?_
   refine Za8 (i := 9) (N := some 14) (Zaz HT_.out HW_.out (by kernel_rfl)) hHeld ?_
   refine one_ (i := 7) (N := some 12) #[true, true, true, true, true, true, true, true, true, true, false, false, false, false, false, false, false, false] rfl rfl (Za9 HT_.out (by kernel_rfl)) (by decide) (fun K hK => ?_)
   refine Zb6 Tryd.func60 (by kernel_rfl) rfl #[.slice m c.length o] (by rfl) rfl rfl (by (try simp only [List.map_toArray, List.map_cons, List.map_nil]); first | done | rfl | (simp only [List.length_drop, List.length_take]; rfl)) ?_
   with_reducible refine (Zbn.calls _ _ c x _ ?side1 ?side2 A6.out).mono ?_
   (case side1 => exact cP (zF v.out (bW)))
   (case side2 => exact y.out)
   rintro e w' ⟨rfl, ⟨nd, rfl⟩⟩
   refine ⟨_, rfl, ?_⟩
   refine hK.out _ _ ⟨bc a 0, bc a 1⟩ (fun hHeld => ?_)
   clear hK K
   refine putS 12 ?_
   refine Zan (i := 10) (N := some 15) (Zai HT_.out (by kernel_rfl)) ?_
   refine Zan (i := 11) (N := some 16) (Zai HT_.out (by kernel_rfl)) ?_
   refine Zan (i := 12) (N := some 17) (Zai HT_.out (by kernel_rfl)) ?_
   refine Zby (i := 13) (N := some 18) (Zai HT_.out (by kernel_rfl)) ?_
   refine Zby (i := 14) (N := some 19) (Zai HT_.out (by kernel_rfl)) ?_
   refine Zby (i := 15) (N := some 20) (Zai HT_.out (by kernel_rfl)) ?_
   refine Zby (i := 16) (N := some 21) (Zai HT_.out (by kernel_rfl)) ?_
   refine Zan (i := 17) (N := some 22) (Zai HT_.out (by kernel_rfl)) ?_
   refine Zcz (Zct HT_.out (by kernel_rfl)) ?_
   try go_wp2
   go_meet
   case rel => exact ⟨_, (true), (eW), H', ⟨by first | omega | exact Nat.le_refl _⟩, ⟨bP a.out⟩, ⟨bW⟩⟩
  rw [if_pos c7] at H
  have B : (x == d) = true := beq_iff_eq.mpr c7
  have ax : (x != d) = false := bne_eq_false_iff_eq.mpr c7
  clear c7
  (first | rw [B] | (simp only [i64_w, i32_w]; rw [B]) | skip)
  replace H := bE H
  obtain ⟨ag, ap, H⟩ := H
  have A8 := mA ap
  clear ap
  have H' := mA H
  clear H
  try go_wp2
  replace a := mA (Zad a.out)
  replace HB := mA (Za0 HB.out)
  refine Zcq (n := 18) (S := fun w' => w'.cell? ⟨g, 0, none⟩ = some (.int .i64 d) ∧ w'.cell? ⟨g, 1, none⟩ = some (.slice m c.length o)) (ds := []) #[false, false, false, false, false, false, false, false, false, false, false, false, false, false, false, false, false, false] (by kernel_rfl) rfl rfl ⟨bc a 0, bc a 1⟩ (fun hHeld => ?_); refine Zb7 Zax.tab1 Zax.bits1 (fun HT_ HW_ => ?_)
  generalize w3.drew = w9 at a HB hHeld ⊢
  refine Zan (i := 0) (N := some 5) (Zai HT_.out (by kernel_rfl)) ?_
  refine Za8 (i := 1) (N := some 6) (Zaz HT_.out HW_.out (by kernel_rfl)) hHeld ?_
  refine one_ (i := 2) (N := some 7) #[true, true, true, false, false, false, false, false, false, false, false, false, false, false, false, false, false, false] rfl rfl (Za9 HT_.out (by kernel_rfl)) (by decide) (fun K hK => ?_)
  refine Zb6 Tryd.func59 (by kernel_rfl) rfl #[.int .i64 d, .int .i64 0, .int .i64 8] (by rfl) rfl rfl (by (try simp only [List.map_toArray, List.map_cons, List.map_nil]); first | done | rfl | (simp only [List.length_drop, List.length_take]; rfl)) ?_
  with_reducible refine (Zbv.calls d 0 8 true _ A4.out).mono ?_
  rintro e w' ⟨rfl, ⟨nd, rfl⟩⟩
  refine ⟨_, rfl, ?_⟩
  refine hK.out _ _ ⟨bc a 0, bc a 1⟩ (fun hHeld => ?_)
  clear hK K
  refine putS 7 ?_
  refine Zan (i := 3) (N := some 8) (Zai HT_.out (by kernel_rfl)) ?_
  refine Zan (i := 4) (N := some 9) (Zai HT_.out (by kernel_rfl)) ?_
  refine Zan (i := 5) (N := some 10) (Zai HT_.out (by kernel_rfl)) ?_
  refine Zan (i := 8) (N := some 13) (Zai HT_.out (by kernel_rfl)) ?_
  refine Za8 (i := 6) (N := some 11) (Zaz HT_.out HW_.out (by kernel_rfl)) hHeld ?_
  refine Za8 (i := 9) (N := some 14) (Zaz HT_.out HW_.out (by kernel_rfl)) hHeld ?_
  refine one_ (i := 7) (N := some 12) #[true, true, true, true, true, true, true, true, true, true, false, false, false, false, false, false, false, false] rfl rfl (Za9 HT_.out (by kernel_rfl)) (by decide) (fun K hK => ?_)
  refine Zb6 Tryd.func60 (by kernel_rfl) rfl #[.slice m c.length o] (by rfl) rfl rfl (by (try simp only [List.map_toArray, List.map_cons, List.map_nil]); first | done | rfl | (simp only [List.length_drop, List.length_take]; rfl)) ?_
  with_reducible refine (Zbn.calls _ _ c x _ ?side1 ?side2 A6.out).mono ?_
  (case side1 => exact cP (zF v.out (bW)))
  (case side2 => exact y.out)
  rintro e w' ⟨rfl, ⟨nd, rfl⟩⟩
  refine ⟨_, rfl, ?_⟩
  refine hK.out _ _ ⟨bc a 0, bc a 1⟩ (fun hHeld => ?_)
  clear hK K
  refine putS 12 ?_
  refine Zan (i := 10) (N := some 15) (Zai HT_.out (by kernel_rfl)) ?_
  refine Zan (i := 11) (N := some 16) (Zai HT_.out (by kernel_rfl)) ?_
  refine Zan (i := 12) (N := some 17) (Zai HT_.out (by kernel_rfl)) ?_
  refine Zan (i := 13) (N := some 18) (Zai HT_.out (by kernel_rfl)) ?_
  refine Za8 (i := 14) (N := some 19) (Zaz HT_.out HW_.out (by kernel_rfl)) hHeld ?_
  refine one_ (i := 15) (N := some 20) #[true, true, true, true, true, true, true, true, true, true, true, true, true, true, true, true, false, false] rfl rfl (Za9 HT_.out (by kernel_rfl)) (by decide) (fun K hK => ?_)
  refine Zb6 Tryd.func61 (by kernel_rfl) rfl #[.slice m c.length o] (by rfl) rfl rfl (by (try simp only [List.map_toArray, List.map_cons, List.map_nil]); first | done | rfl | (simp only [List.length_drop, List.length_take]; rfl)) ?_
  with_reducible refine (Zdg.calls _ _ c ag _ ?side1 ?side2 A8.out).mono ?_
  (case side1 => exact cP (zF v.out (bW)))
  (case side2 => exact y.out)
  rintro e aW ⟨rfl, hb⟩
  refine ⟨_, rfl, ?_⟩
  replace a := mA (blkB a.out hb)
  replace HB := mA (Zac (bW) hb)
  (try clear hb)
  (try clear hb2)
  (try clear hk)
  (try clear hi)
  refine hK.out _ _ ⟨bc a 0, bc a 1⟩ (fun hHeld => ?_)
  clear hK K
  refine putS 20 ?_
  refine Zan (i := 16) (N := some 21) (Zai HT_.out (by kernel_rfl)) ?_
  refine Zan (i := 17) (N := some 22) (Zai HT_.out (by kernel_rfl)) ?_
  refine Zcz (Zct HT_.out (by kernel_rfl)) ?_
  try go_wp2
  go_meet
  case rel => exact ⟨_, (!ag), (eW), H', ⟨by first | omega | exact Nat.le_refl _⟩, ⟨bP a.out⟩, ⟨bW⟩⟩
 case rest =>
  clear af
  obtain ⟨kq, z, rfl, HA, aq, a, HB⟩ := hcut
  cases kq with
  | zero => exact absurd HA.out (by simp [Zax.j0])
  | succ ah =>
   have H := HA.out
   clear HA
   simp only [Zax.j0] at H
   by_cases O : z = true
   ·subst O
    rw [if_pos rfl] at H
    obtain rfl := oI H
    go_wp2
    go_ret
    exact ⟨eW, bW⟩
   replace O := Bool.eq_false_iff.mpr O
   subst O
   rw [iF] at H
   replace H := bE H
   obtain ⟨l, ai, H⟩ := H
   have aO := mA ai
   clear ai
   have H' := mA H
   clear H
   have ab : wc.cell? ⟨g, 0, none⟩ = some (.int .i64 d) := bc a 0
   have ac : wc.cell? ⟨g, 1, none⟩ = some (.slice m c.length o) := bc a 1
   have ad := Zab a.out 0
   have ae := Zab a.out 1
   go_wp2_with (first | ((with_reducible refine Zav (f := 62) rfl ?_); refine Zbo (some 25) Tryd.func62 #[.slice m c.length o] ?_; (with_reducible refine (Za5.calls ah _ _ c l _ ?side1 ?side2 aO.out (tabW HTab.out)).mono ?_); (case side1 => exact cP (zF v.out HB.out)); (case side2 => exact y.out); rintro e aX ⟨aV, rfl, ar, hb⟩; refine ⟨_, rfl, ?_⟩; have P := mA (zP ar (Zag (bW))); replace a := mA (blkB a.out hb); replace HB := mA (Zac (bW) hb); (try clear hb); (try clear hb2); (try clear hk); (try clear hi); (try clear ar); obtain ⟨ay, az, aA⟩ := zJ P.out; subst aA))
   go_loopg [27] ah (fun kq v27 w' => ∃ (b : Int), v27 = .int .i64 b ∧ Zaa (Zax.l0 kq l (l.length : Int) b d c = some r) ∧ Zaa (kq ≤ ah) ∧ Zaa (Kd.R (Kd.int .i64) 2 w' w.heap.size (fun _ => True) (.slice ay l.length az) l) ∧ Zaa (w'.heap[g]? = some (.cells #[.int .i64 d, (.slice m c.length o)] 32 (0, 0))) ∧ Zaa (Below w.heap.size w w'))
   case atStart => exact ⟨(0), (eW), H', ⟨Nat.le_refl _⟩, ⟨rP P.out⟩, ⟨bP a.out⟩, ⟨bW⟩⟩
   case round =>
    clear H' ab ac ad ae
    obtain ⟨b, rfl, HA, au, A, a, HB⟩ := hrel
    cases gk with
    | zero => exact absurd HA.out (by simp [Zax.l0])
    | succ k2 =>
     have H := HA.out
     clear HA
     simp only [Zax.l0] at H
     by_cases I : b < (l.length : Int); rotate_left
     ·rw [if_neg I] at H
      have ak := dF I
      clear I
      obtain rfl := oI H
      go_wp2
      go_ret
      exact ⟨eW, bW⟩
     rw [if_pos I] at H
     have ak := dT I
     clear I
     by_cases T : 0 ≤ b; rotate_left
     ·rw [if_neg T] at H
      exact absurd H (by simp)
     rw [if_pos T] at H
     have aR := dT T
     clear T
     by_cases U : b < (l.length : Int); rotate_left
     ·rw [if_neg U] at H
      exact absurd H (by simp)
     rw [if_pos U] at H
     have aS := dT U
     clear U
     by_cases W : b < (c.length : Int); rotate_left
     ·rw [if_neg W] at H
      exact absurd H (by simp)
     rw [if_pos W] at H
     have aT := dT W
     clear W
     by_cases D : (rd l b) = (rd c b); rotate_left
     ·rw [if_neg D] at H
      have al : ((rd l b) == (rd c b)) = false := beq_eq_false_iff_ne.mpr D
      have am : ((rd l b) != (rd c b)) = true := bne_iff_ne.mpr D
      obtain rfl := oI H
      have p : 0 ≤ (b : Int) := ofD
      have q : b < (l.length : Int) := ofD
      obtain ⟨X, E, J⟩ := zI (zE A.out).2.2 b p q
      cases E
      replace p := eq_true p
      replace q := eq_true q
      have aC : wr.cell? ⟨g, 0, none⟩ = some (.int .i64 d) := bc a 0
      have aD : wr.cell? ⟨g, 1, none⟩ = some (.slice m c.length o) := bc a 1
      have aE := Zab a.out 0
      have aF := Zab a.out 1
      have s : 0 ≤ (b : Int) := ofD
      have u : b < (c.length : Int) := ofD
      obtain ⟨Y, G, j⟩ := zI v.out b s u
      cases G
      replace j := (HB.out.cell (wB w j)).trans j
      replace s := eq_true s
      replace u := eq_true u
      go_wp2
      go_ret
      exact ⟨eW, bW⟩
     rw [if_pos D] at H
     have al : ((rd l b) == (rd c b)) = true := beq_iff_eq.mpr D
     have am : ((rd l b) != (rd c b)) = false := bne_eq_false_iff_eq.mpr D
     clear D
     replace H := bE H
     obtain ⟨aB, aj, H⟩ := H
     have av := mA aj
     clear aj
     by_cases aa : aB = true; rotate_left
     ·replace aa := Bool.eq_false_iff.mpr aa
      subst aa
      rw [iF] at H
      obtain rfl := oI H
      have p : 0 ≤ (b : Int) := ofD
      have q : b < (l.length : Int) := ofD
      obtain ⟨X, E, J⟩ := zI (zE A.out).2.2 b p q
      cases E
      replace p := eq_true p
      replace q := eq_true q
      have aG : wr.cell? ⟨g, 0, none⟩ = some (.int .i64 d) := bc a 0
      have aH : wr.cell? ⟨g, 1, none⟩ = some (.slice m c.length o) := bc a 1
      have aI := Zab a.out 0
      have aJ := Zab a.out 1
      have s : 0 ≤ (b : Int) := ofD
      have u : b < (c.length : Int) := ofD
      obtain ⟨Y, G, j⟩ := zI v.out b s u
      cases G
      replace j := (HB.out.cell (wB w j)).trans j
      replace s := eq_true s
      replace u := eq_true u
      go_wp2_with (first | (go_at_call 44; (with_reducible refine (Zde.calls (rd l b) b false _ av.out).mono ?_); rintro e w' ⟨rfl, ⟨nd, rfl⟩⟩))
      go_ret
      exact ⟨eW, bW⟩
     subst aa
     rw [if_pos rfl] at H
     have H' := mA H
     clear H
     have p : 0 ≤ (b : Int) := ofD
     have q : b < (l.length : Int) := ofD
     obtain ⟨X, E, J⟩ := zI (zE A.out).2.2 b p q
     cases E
     replace p := eq_true p
     replace q := eq_true q
     have aK : wr.cell? ⟨g, 0, none⟩ = some (.int .i64 d) := bc a 0
     have aL : wr.cell? ⟨g, 1, none⟩ = some (.slice m c.length o) := bc a 1
     have aM := Zab a.out 0
     have aN := Zab a.out 1
     have s : 0 ≤ (b : Int) := ofD
     have u : b < (c.length : Int) := ofD
     obtain ⟨Y, G, j⟩ := zI v.out b s u
     cases G
     replace j := (HB.out.cell (wB w j)).trans j
     replace s := eq_true s
     replace u := eq_true u
     go_wp2_with (first | (go_at_call 44; (with_reducible refine (Zde.calls (rd l b) b true _ av.out).mono ?_); rintro e w' ⟨rfl, ⟨nd, rfl⟩⟩))
     go_roundg k2
     case measure => have := aq.out; have := au.out; omega
     case rel => exact ⟨(wrap64 (b + 1)), (eW), H', ⟨by have := aq.out; have := au.out; omega⟩, ⟨rP A.out⟩, ⟨bP a.out⟩, ⟨bW⟩⟩
def Zbq.f (l0 : List (List Int)) : Option (Int) := some (l0.length : Int)
theorem Zbq.calls (A0 : Option Addr) (c0 : Nat) (l0 : List (List Int)) (r : Int) (w : World) (a : Kd.C (Kd.slice 2 (Kd.int .i64)) w A0 l0.length l0) (b : l0.length ≤ c0) (h : Zbq.f l0 = some r) :
  Calls Tryd.prog 53 #[.slice A0 l0.length c0] w fun e w' => e = .returned (.int .i64 r) ∧ Zar w w' := by
 have c := mA a
 have d := mA b
 clear a b
 unfold Zbq.f at h
 have H := h
 clear h
 obtain rfl := oI H
 go_enter Tryd.func53, Tryd.ntmps53
 go_wp2
 go_ret
 exact ⟨eW, by repeat (first | exact Zar.refl _ | apply Zar.step)⟩
def Zdn.f (a0 : Int) (a1 : Int) : Option (Bool) := (Zbv.f a1 0 24).bind fun a => (if a = true then ((Zdl.f a1).bind fun b => ((Zbv.f a0 0 (wrap64 (b - 1))).bind fun c => (some c))) else (some false))
theorem Zdn.calls (a0 : Int) (a1 : Int) (r : Bool) (w : World) (h : Zdn.f a0 a1 = some r) :
  Calls Tryd.prog 64 #[.int .i64 a0, .int .i64 a1] w fun e w' => e = .returned (.bool r) ∧ Zar w w' := by
 unfold Zdn.f at h
 have H := h
 clear h
 replace H := bE H
 obtain ⟨g, b, H⟩ := H
 have A3 := mA b
 clear b
 by_cases c4 : g = true; rotate_left
 ·replace c4 := Bool.eq_false_iff.mpr c4
  subst c4
  rw [iF] at H
  obtain rfl := oI H
  go_enter Tryd.func64, Tryd.ntmps64
  go_wp2_with (first | ((with_reducible refine Zav (f := 59) rfl ?_); refine Zbo (some 6) Tryd.func59 #[.int .i64 a1, .int .i64 0, .int .i64 24] ?_; (with_reducible refine (Zbv.calls a1 0 24 false _ A3.out).mono ?_); rintro e w' ⟨rfl, ⟨nd, rfl⟩⟩; refine ⟨_, rfl, ?_⟩))
  go_ret
  exact ⟨eW, by repeat (first | exact Zar.refl _ | apply Zar.step)⟩
 subst c4
 rw [if_pos rfl] at H
 replace H := bE H
 obtain ⟨a, c, H⟩ := H
 have A5 := mA c
 clear c
 replace H := bE H
 obtain ⟨i, d, H⟩ := H
 have A6 := mA d
 clear d
 obtain rfl := oI H
 go_enter Tryd.func64, Tryd.ntmps64
 go_wp2_with (first | ((with_reducible refine Zav (f := 59) rfl ?_); refine Zbo (some 6) Tryd.func59 #[.int .i64 a1, .int .i64 0, .int .i64 24] ?_; (with_reducible refine (Zbv.calls a1 0 24 true _ A3.out).mono ?_); rintro e w' ⟨rfl, ⟨nd, rfl⟩⟩; refine ⟨_, rfl, ?_⟩) | (go_at_call 75; (with_reducible refine (Zdl.calls a1 a _ A5.out).mono ?_); rintro e w' ⟨rfl, ⟨nd, rfl⟩⟩) | (go_at_call 59; (with_reducible refine (Zbv.calls a0 0 (wrap64 (a - 1)) i _ A6.out).mono ?_); rintro e w' ⟨rfl, ⟨nd, rfl⟩⟩))
 go_ret
 exact ⟨eW, by repeat (first | exact Zar.refl _ | apply Zar.step)⟩
theorem rdL_get {l : List (List Int)} {k : Nat} (hk : k < l.length) : Zae l (k : Int) = l[k] := by
  unfold Zae; rw [List.getD_eq_getElem?_getD, Int.toNat_natCast, List.getElem?_eq_getElem hk]; rfl
set_option maxHeartbeats 2000000 in
theorem idxL (g : Nat) (lb : Array Value) (eg : ∀ args w, (callFunc g args).run Tryd.prog w = .ok (.enter g args) w) (p : List Int → Bool) (A : Option Addr) (c : Nat) (l : List (List Int)) (w : World) (hr : Kd.C (Kd.slice 2 (Kd.int .i64)) w A l.length l)
    (hp : ∀ (W : World) (x : List Int) (A' : Option Addr) (c' : Nat), x ∈ l → Below w.heap.size w W → Kd.C (Kd.int .i64) W A' x.length x → x.length ≤ c' → Calls Tryd.prog g (#[.slice A' x.length c'] ++ lb) W fun e w' => e = .returned (.bool (p x)) ∧ Below W.heap.size W w') :
    Calls Tryd.prog 77 #[.slice A l.length c, .func (.func g) #[] lb] w fun e w' => e = .returned (.int .i64 (fidx p l)) ∧ Below w.heap.size w w' := by
  have HR := Zaa.mk hr
  have hlen : l.length ≤ 9223372036854775807 := hr.2.1
  clear hr
  have HP := Zaa.mk hp
  clear hp
  go_enter Tryd.func77, Tryd.ntmps77
  go_wp2
  go_loopg [5, 8] l.length (fun gg _ s8 wr => ∃ kk : Nat, kk ≤ l.length ∧ l.length - kk ≤ gg ∧ s8 = .int .i64 kk ∧ Zaa (Below w.heap.size w wr) ∧ Zaa (∀ j (hj : j < kk) (hl : j < l.length), p l[j] = false))
  case atStart => exact ⟨0, Nat.zero_le _, by omega, rfl, ⟨Below.refl _ w⟩, ⟨fun j hj => absurd hj (Nat.not_lt_zero _)⟩⟩
  case round =>
    obtain ⟨kk, hkk, hg, rfl, BW, AS⟩ := hrel
    by_cases hlt : kk < l.length
    · have hltz : (kk : Int) < (l.length : Int) := by omega
      have a : 0 ≤ (kk : Int) := by omega
      obtain ⟨ad, A', c', e, hx, hlc, hin⟩ := Zch HR.out (kk : Int) a hltz
      cases e
      replace hx := (BW.out.cell (World.block_lt_of_cell? w _ hx)).trans hx
      rw [rdL_get hlt] at hx hlc hin
      rw [Int.toNat_natCast] at hx
      have hcall := HP.out wr l[kk] A' c' (List.getElem_mem hlt) BW.out (Kd.zF hin BW.out) hlc
      clear hlc hin
      cases hq : p l[kk] with
      | true =>
        rw [hq] at hcall
        have HQ := Zaa.mk hq
        clear hq
        generalize hy : l[kk] = y at hx hcall
        clear hy
        go_wp2_with (go_at_fn g; refine hcall.mono ?_; rintro e w' ⟨rfl, hb'⟩)
        go_ret
        exact ⟨by rw [fidx_hit hlt HQ.out (fun j hj => AS.out j hj _)]; rfl, Zac BW.out hb'⟩
      | false =>
        rw [hq] at hcall
        have HQ := Zaa.mk hq
        clear hq
        generalize hy : l[kk] = y at hx hcall
        clear hy
        go_wp2_with (go_at_fn g; refine hcall.mono ?_; rintro e w' ⟨rfl, hb'⟩)
        go_roundg (l.length - (kk + 1))
        case measure => omega
        case rel =>
          refine ⟨kk + 1, by omega, by omega, by go_num, ⟨Zac BW.out hb'⟩, ⟨fun j hj hl => ?_⟩⟩
          by_cases e : j = kk
          · subst e
            exact HQ.out
          · exact AS.out j (by omega) hl
    · have hltz : ¬ (kk : Int) < (l.length : Int) := by omega
      have hke : kk = l.length := by omega
      have HKE := Zaa.mk hke
      clear hke
      go_wp2
      go_ret
      exact ⟨by rw [fidx_miss (fun j hj => AS.out j (by have := HKE.out; omega) hj)]; rfl, BW.out⟩
set_option maxHeartbeats 2000000 in
theorem conL (g : Nat) (lb : Array Value) (eg : ∀ args w, (callFunc g args).run Tryd.prog w = .ok (.enter g args) w) (p : List Int → Bool) (A : Option Addr) (c : Nat) (l : List (List Int)) (w : World) (hr : Kd.C (Kd.slice 2 (Kd.int .i64)) w A l.length l)
    (hp : ∀ (W : World) (x : List Int) (A' : Option Addr) (c' : Nat), x ∈ l → Below w.heap.size w W → Kd.C (Kd.int .i64) W A' x.length x → x.length ≤ c' → Calls Tryd.prog g (#[.slice A' x.length c'] ++ lb) W fun e w' => e = .returned (.bool (p x)) ∧ Below W.heap.size W w') :
    Calls Tryd.prog 65 #[.slice A l.length c, .func (.func g) #[] lb] w fun e w' => e = .returned (.bool (l.any p)) ∧ Below w.heap.size w w' := by
  have HI := Zaa.mk (fun w0 (h0 : w0 = w) => h0 ▸ idxL g lb eg p A c l w hr hp)
  rw [← fidx_nonneg]
  clear hr hp
  go_enter Tryd.func65, Tryd.ntmps65
  go_wp2_with (go_at_call 77; refine (HI.out _ rfl).mono ?_; rintro e w' ⟨rfl, hb'⟩)
  go_ret
  exact ⟨rfl, hb'⟩
def badRow (L n : Int) (x : List Int) : Bool := !(decide ((x.length : Int) = L)) || !(x.all fun t => decide (-1 ≤ t) && decide (t ≤ n - 1))
set_option maxHeartbeats 2000000 in
theorem IsAutomaton_1 (L n : Int) (hn : 0 ≤ n ∧ n ≤ 9223372036854775807) (b1 b2 : Nat) (A : Option Addr) (c : Nat) (x : List Int) (w : World) (hr : Kd.C (Kd.int .i64) w A x.length x) (hc : x.length ≤ c) (h1 : w.cell? ⟨b1, 0, none⟩ = some (.int .i64 L)) (h2 : w.cell? ⟨b2, 0, none⟩ = some (.int .i64 n)) :
    Calls Tryd.prog 66 #[.slice A x.length c, .pointer (some ⟨b1, 0, none⟩), .pointer (some ⟨b2, 0, none⟩)] w fun e w' => e = .returned (.bool (badRow L n x)) ∧ Below w.heap.size w w' := by
  have HR := Zaa.mk hr
  have HC := Zaa.mk hc
  have hlen : x.length ≤ 9223372036854775807 := hr.2.1
  have hf : ∀ r, (x.all fun t => decide (-1 ≤ t) && decide (t ≤ n - 1)) = r → Zdp.f x (-1) (n - 1) = some r := fun r h => by unfold Zdp.f; rw [h]
  have HF := Zaa.mk hf
  have hlf : Zbn.f x = some (x.length : Int) := rfl
  have HLF := Zaa.mk hlf
  clear hr hc hf hlf
  obtain ⟨b, d⟩ := hn
  by_cases hL : (x.length : Int) = L
  · have hb : badRow L n x = !(x.all fun t => decide (-1 ≤ t) && decide (t ≤ n - 1)) := by unfold badRow; simp [hL]
    rw [hb]
    clear hb
    generalize (x.all fun t => decide (-1 ≤ t) && decide (t ≤ n - 1)) = r at HF ⊢
    have hne : ((x.length : Int) != L) = false := by simp [hL]
    have HL := Zaa.mk hL
    clear hL
    have hA := fun W => Zdp.calls A c x (-1) (n - 1) r W
    have hA' := fun W (hb : Below w.heap.size w W) => hA W (Kd.zF HR.out hb) HC.out (HF.out _ rfl)
    clear hA
    have hlA := World.block_lt_of_cell? w _ h1
    have hlB := World.block_lt_of_cell? w _ h2
    have hwr : IntKind.i64.wrap (n - 1) = n - 1 := IntWalk.i64_in _ (by omega)
    go_enter Tryd.func66, Tryd.ntmps66
    go_wp2
    go_region_held3 (fun w' => w'.cell? ⟨b1, 0, none⟩ = some (.int .i64 L) ∧ w'.cell? ⟨b2, 0, none⟩ = some (.int .i64 n)) (go_keep)
      (first | (go_at_call 60; refine Calls.mono (Zbn.calls A c x _ _ (by repeat (first | (with_reducible refine Kd.yK ?_ _) | (with_reducible refine Kd.yJ ?_) | exact HR.out)) HC.out HLF.out) ?_; rintro e w' ⟨rfl, ⟨m, rfl⟩⟩) | (go_at_call 67; refine Calls.mono (hA' _ (by repeat (first | apply Zbd | apply Za0 | exact Below.refl _ _))) ?_; rintro e w1 ⟨rfl, a⟩; have k1 := (a.cell (p := ⟨b1, 0, none⟩) (by simpa using hlA)).trans (by simpa using h1); have k2 := (a.cell (p := ⟨b2, 0, none⟩) (by simpa using hlB)).trans (by simpa using h2)))
    go_wp2
    go_ret
    exact ⟨by simp, Zac (Zbd (Below.refl _ w) _) a⟩
  · have hb : badRow L n x = true := by unfold badRow; simp [hL]
    rw [hb]
    clear hb
    have hne : ((x.length : Int) != L) = true := by simpa using hL
    have HL := Zaa.mk hL
    clear hL
    go_enter Tryd.func66, Tryd.ntmps66
    go_wp2
    go_quiet ((go_at_call 60; refine Calls.mono (Zbn.calls A c x _ _ (by repeat (first | (with_reducible refine Kd.yK ?_ _) | (with_reducible refine Kd.yJ ?_) | exact HR.out)) HC.out HLF.out) ?_; rintro e w' ⟨rfl, ⟨nd, rfl⟩⟩; (try first | exact ⟨rfl, _, World.drewN_drewN _ _ _⟩ | exact ⟨rfl, _, Eq.trans (World.drewN_drewN _ _ _) (congrArg (World.drewN _) (Nat.add_assoc _ _ _))⟩)))
    go_wp2
    go_ret
    exact ⟨rfl, by repeat (first | apply Zbd | apply Za0 | exact Below.refl _ _)⟩
def inRB (n lo hi : Int) : Bool := decide (lo ≤ n) && decide (n ≤ hi)
theorem inRange_some (n lo hi : Int) : Zbv.f n lo hi = some (inRB n lo hi) := by
  unfold Zbv.f inRB
  by_cases h : lo ≤ n <;> simp [h]
theorem inRange_any (n lo hi : Int) (w : World) : Calls Tryd.prog 59 #[.int .i64 n, .int .i64 lo, .int .i64 hi] w fun e w' => e = .returned (.bool (inRB n lo hi)) ∧ Zar w w' :=
  Zbv.calls n lo hi _ w (inRange_some n lo hi)
def maskB (F n : Int) : Bool := (Zdn.f F n).getD false
theorem isMask_some (F n : Int) : Zdn.f F n = some (maskB F n) := by
  unfold maskB Zdn.f
  rw [inRange_some]
  simp only [Option.bind_some]
  split
  · rename_i h
    unfold inRB at h
    simp only [Bool.and_eq_true, decide_eq_true_eq] at h
    unfold Zdl.f
    rw [if_pos h.1]
    simp only [Option.bind_some]
    rw [inRange_some]
    rfl
  · rfl
theorem isMask_any (F n : Int) (w : World) : Calls Tryd.prog 64 #[.int .i64 F, .int .i64 n] w fun e w' => e = .returned (.bool (maskB F n)) ∧ Zar w w' :=
  Zdn.calls F n _ w (isMask_some F n)
def isAut (L S F : Int) (N : List (List Int)) : Bool :=
  inRB L 0 8 && (inRB N.length 1 16 && (inRB S 0 ((N.length : Int) - 1) && (maskB F N.length && !(N.any (badRow L N.length)))))
def Zdv.f (a : Int) (b : Int) (c : Int) (d : List (List Int)) : Option Bool := some (isAut a b c d)
set_option maxHeartbeats 4000000 in
theorem Zdv.calls (b : Int) (g : Int) (i : Int) (c : Option Addr) (d : Nat) (a : List (List Int)) (r : Bool) (w : World) (j : Kd.C (Kd.slice 2 (Kd.int .i64)) w c a.length a) (k : a.length ≤ d) (h : Zdv.f b g i a = some r) :
    Calls Tryd.prog 42 #[.agg #[.int .i64 b, .int .i64 g, .int .i64 i, .slice c a.length d]] w fun e w' => e = .returned (.bool r) ∧ Below w.heap.size w w' := by
  have hlen : a.length ≤ 9223372036854775807 := j.2.1
  have HR := mA j
  have HCp := mA k
  clear j k
  have hrr : isAut b g i a = r := Option.some.inj h
  clear h
  unfold isAut at hrr
  have HLF := mA (show Zbq.f a = some (a.length : Int) from rfl)
  have hwr : IntKind.i64.wrap ((a.length : Int) - 1) = (a.length : Int) - 1 := IntWalk.i64_in _ (by omega)
  have HCN := fun W A (hA : Kd.C (Kd.slice 2 (Kd.int .i64)) W A a.length a) (b1 b2 : Nat) (h1 : W.cell? ⟨b1, 0, none⟩ = some (.int .i64 b)) (h2 : W.cell? ⟨b2, 0, none⟩ = some (.int .i64 a.length)) (n : b1 < W.heap.size) (o : b2 < W.heap.size) =>
    conL 66 #[.pointer (some ⟨b1, 0, none⟩), .pointer (some ⟨b2, 0, none⟩)] (enters_of Tryd.func66 (by kernel_rfl) rfl) (badRow b a.length) A d a W hA
      (fun W' x A' c' _ hb hC hc => IsAutomaton_1 b a.length ⟨by omega, by omega⟩ b1 b2 A' c' x W' hC hc ((hb.cell (p := ⟨b1, 0, none⟩) n).trans h1) ((hb.cell (p := ⟨b2, 0, none⟩) o).trans h2))
  generalize q : a.any (badRow b a.length) = q5 at HCN hrr
  clear q
  cases hq1 : inRB b 0 8
  · rw [hq1, Bool.false_and] at hrr
    subst hrr
    clear HCN
    go_enter Tryd.func42, Tryd.ntmps42
    go_wp2_with (first | (go_at_call 53; refine Calls.mono (Zbq.calls c d a _ _ (by repeat (first | (with_reducible refine yK ?_ _) | (with_reducible refine yJ ?_) | (with_reducible refine yI ?_ _) | exact HR.out)) HCp.out HLF.out) ?_; rintro e w' ⟨rfl, ⟨nd, rfl⟩⟩) | (go_at_call 59; refine Calls.mono (inRange_any _ _ _ _) ?_; rintro e w' ⟨rfl, ⟨l, rfl⟩⟩) | (go_at_call 64; refine Calls.mono (isMask_any _ _ _) ?_; rintro e w' ⟨rfl, ⟨m, rfl⟩⟩))
    go_ret
    exact ⟨rfl, by repeat (first | apply Zbk | apply Zbd | apply Za0 | exact Below.refl _ _)⟩
  rw [hq1, Bool.true_and] at hrr
  cases hq2 : inRB a.length 1 16
  · rw [hq2, Bool.false_and] at hrr
    subst hrr
    clear HCN
    go_enter Tryd.func42, Tryd.ntmps42
    go_wp2_with (first | (go_at_call 53; refine Calls.mono (Zbq.calls c d a _ _ (by repeat (first | (with_reducible refine yK ?_ _) | (with_reducible refine yJ ?_) | (with_reducible refine yI ?_ _) | exact HR.out)) HCp.out HLF.out) ?_; rintro e w' ⟨rfl, ⟨nd, rfl⟩⟩) | (go_at_call 59; refine Calls.mono (inRange_any _ _ _ _) ?_; rintro e w' ⟨rfl, ⟨l, rfl⟩⟩) | (go_at_call 64; refine Calls.mono (isMask_any _ _ _) ?_; rintro e w' ⟨rfl, ⟨m, rfl⟩⟩))
    go_ret
    exact ⟨rfl, by repeat (first | apply Zbk | apply Zbd | apply Za0 | exact Below.refl _ _)⟩
  rw [hq2, Bool.true_and] at hrr
  cases hq3 : inRB g 0 ((a.length : Int) - 1)
  · rw [hq3, Bool.false_and] at hrr
    subst hrr
    clear HCN
    go_enter Tryd.func42, Tryd.ntmps42
    go_wp2_with (first | (go_at_call 53; refine Calls.mono (Zbq.calls c d a _ _ (by repeat (first | (with_reducible refine yK ?_ _) | (with_reducible refine yJ ?_) | (with_reducible refine yI ?_ _) | exact HR.out)) HCp.out HLF.out) ?_; rintro e w' ⟨rfl, ⟨nd, rfl⟩⟩) | (go_at_call 59; refine Calls.mono (inRange_any _ _ _ _) ?_; rintro e w' ⟨rfl, ⟨l, rfl⟩⟩) | (go_at_call 64; refine Calls.mono (isMask_any _ _ _) ?_; rintro e w' ⟨rfl, ⟨m, rfl⟩⟩))
    go_ret
    exact ⟨rfl, by repeat (first | apply Zbk | apply Zbd | apply Za0 | exact Below.refl _ _)⟩
  rw [hq3, Bool.true_and] at hrr
  cases hq4 : maskB i a.length
  · rw [hq4, Bool.false_and] at hrr
    subst hrr
    clear HCN
    go_enter Tryd.func42, Tryd.ntmps42
    go_wp2_with (first | (go_at_call 53; refine Calls.mono (Zbq.calls c d a _ _ (by repeat (first | (with_reducible refine yK ?_ _) | (with_reducible refine yJ ?_) | (with_reducible refine yI ?_ _) | exact HR.out)) HCp.out HLF.out) ?_; rintro e w' ⟨rfl, ⟨nd, rfl⟩⟩) | (go_at_call 59; refine Calls.mono (inRange_any _ _ _ _) ?_; rintro e w' ⟨rfl, ⟨l, rfl⟩⟩) | (go_at_call 64; refine Calls.mono (isMask_any _ _ _) ?_; rintro e w' ⟨rfl, ⟨m, rfl⟩⟩))
    go_ret
    exact ⟨rfl, by repeat (first | apply Zbk | apply Zbd | apply Za0 | exact Below.refl _ _)⟩
  rw [hq4, Bool.true_and] at hrr
  subst hrr
  go_enter Tryd.func42, Tryd.ntmps42
  go_wp2_with (first | (go_at_call 53; refine Calls.mono (Zbq.calls c d a _ _ (by repeat (first | (with_reducible refine yK ?_ _) | (with_reducible refine yJ ?_) | (with_reducible refine yI ?_ _) | exact HR.out)) HCp.out HLF.out) ?_; rintro e w' ⟨rfl, ⟨nd, rfl⟩⟩) | (go_at_call 59; refine Calls.mono (inRange_any _ _ _ _) ?_; rintro e w' ⟨rfl, ⟨l, rfl⟩⟩) | (go_at_call 64; refine Calls.mono (isMask_any _ _ _) ?_; rintro e w' ⟨rfl, ⟨m, rfl⟩⟩))
  refine Calls.mono (HCN _ c (by repeat (first | (with_reducible refine yK ?_ _) | (with_reducible refine yJ ?_) | (with_reducible refine yI ?_ _) | exact HR.out)) w.heap.size (w.heap.size + 1) (by go_simp) (by go_simp) (by simp; omega) (by simp)) ?_
  rintro e w' ⟨rfl, hb⟩
  go_wp2
  go_ret
  exact ⟨by simp, Zac (by repeat (first | apply Zbk | apply Zbd | apply Za0 | exact Below.refl _ _)) hb⟩
end Go.Proofs.YtgindgodfcfgkaaDoor.P
end M1
