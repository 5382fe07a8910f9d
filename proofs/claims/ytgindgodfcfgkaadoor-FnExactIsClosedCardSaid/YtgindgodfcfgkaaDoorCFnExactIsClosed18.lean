import Derived.Test.YtgindgodfcfgkaaDoorCFnExactIsClosed16
import Derived.Test.YtgindgodfcfgkaaDoorCFnExactIsClosed17
set_option maxHeartbeats 8000000
set_option maxRecDepth 100000
section M0
namespace Go.Proofs.YtgindgodfcfgkaaDoor.P
open Go.RowKit Go.Proofs.YtgindgodfcfgkaaDoor.Sh Go.Proofs.YtgindgodfcfgkaaDoorW.PrintWords Go.Proofs.YtgindgodfcfgkaaDoorW.PrintLast Go.Proofs.YtgindgodfcfgkaaDoorW.PrintMore
open Kd
attribute [local go_sem] Zcp Zcq Zc0 Zcy Zcf Zcg Zcr Zcs   -- for this text's walks alone
set_option linter.unusedVariables false
set_option linter.unusedSimpArgs false
def Zc5.f (k : Nat) (b : Int) (c : Int) (d : List Bool) (e : List (List Int)) (g : Int) (h : List Int) : Option (Bool) := (Zak.f k b c d e).bind fun a => ((Zal.f k a.1 a.2.1 a.2.2.1 a.2.2.2 g h).bind fun i => (if i = [] then (some true) else (some false)))
theorem Zc5.calls (k : Nat) (q : Int) (s : Int) (y : Option Addr) (z : Nat) (d : List Bool) (A : Option Addr) (B : Nat) (j : List (List Int)) (u : Int) (D : Option Addr) (E : Nat) (l : List Int) (r : Bool) (w : World) (ae : Kd.C Kd.bool w y d.length d) (af : d.length ≤ z) (ag : Kd.C (Kd.slice 2 (Kd.int .i64)) w A j.length j) (ah : j.length ≤ B) (ai : Kd.C (Kd.int .i64) w D l.length l) (aj : l.length ≤ E) (h : Zc5.f k q s d j u l = some r) :
  Calls Tryd.prog 23 #[.agg #[.int .i64 q, .int .i64 s, .slice y d.length z, .slice A j.length B], .agg #[.int .i64 u, .slice D l.length E]] w fun e w' => e = .returned (.bool r) ∧ Below w.heap.size w w' := by
 have aS := Tryd.underlying48
 have aT := Tryd.underlying32
 have ak := mA ae
 have al := mA af
 clear ae af
 have am := mA ag
 have an := mA ah
 clear ag ah
 have ao := mA ai
 have ap := mA aj
 clear ai aj
 have HB := mA (Below.refl w.heap.size w)
 unfold Zc5.f at h
 have H := h
 clear h
 replace H := bE H
 obtain ⟨⟨L, M, O, T⟩, A30, H⟩ := H
 try dsimp only at H
 have A3 := mA A30
 clear A30
 replace H := bE H
 obtain ⟨J, aC, H⟩ := H
 have A4 := mA aC
 clear aC
 by_cases c5 : J = []
 ·rw [if_pos c5] at H
  have aD : (J == []) = true := beq_iff_eq.mpr c5
  have aE : (J != []) = false := bne_eq_false_iff_eq.mpr c5
  clear c5
  obtain rfl := oI H
  go_enter Tryd.func23, Tryd.ntmps23
  try go_wp2_with (first | ((with_reducible refine Zao (N := 2) rfl ?_); refine boxS (N := 2) (cs := #[.int .i64 q, .int .i64 s, .slice y d.length z, .slice A j.length B]) (t := 48) ?_; intro c hg w6 hbox hb; have a := mA (hbox); have aw := geW (w := w) hg; have ax := geW (w := w) hg; replace HB := mA (Zac (bW) hb); clear hb hbox hg) | ((with_reducible refine Zao (N := 3) rfl ?_); refine boxS (N := 3) (cs := #[.int .i64 u, .slice D l.length E]) (t := 32) ?_; intro v hg w7 hbox hb; have b := mA (hbox); have ay := geW (w := w) hg; have az := geW (w := w) hg; replace HB := mA (Zac (bW) hb); have aa := mA (neB hg a); have ab := mA (neC hg a); replace a := mA (blkB a.out hb); clear hb hbox hg))
  replace a := mA (Zad a.out)
  replace b := mA (Zad b.out)
  replace HB := mA (Zax HB.out)
  refine Zcd (n := 6) (S := fun w' => w'.cell? ⟨c, 0, none⟩ = some (.int .i64 q) ∧ w'.cell? ⟨c, 1, none⟩ = some (.int .i64 s) ∧ w'.cell? ⟨c, 2, none⟩ = some (.slice y d.length z) ∧ w'.cell? ⟨c, 3, none⟩ = some (.slice A j.length B) ∧ w'.cell? ⟨v, 0, none⟩ = some (.int .i64 u) ∧ w'.cell? ⟨v, 1, none⟩ = some (.slice D l.length E)) (ds := []) #[false, false, false, false, false, false] (by kernel_rfl) rfl rfl ⟨bc a 0, bc a 1, bc a 2, bc a 3, bc b 0, bc b 1⟩ (fun hHeld => ?_)
  generalize w7.drew = w8 at a b HB hHeld ⊢
  refine Za7 (i := 0) (N := some 5) (by kernel_rfl) hHeld ?_
  refine Za7 (i := 2) (N := some 7) (by kernel_rfl) hHeld ?_
  refine one_ (i := 1) (N := some 6) #[true, true, true, false, false, false] rfl rfl (by kernel_rfl) (by decide) (fun K hK => ?_)
  refine Zb0 Tryd.func31 (by kernel_rfl) rfl #[.agg #[.int .i64 q, .int .i64 s, .slice y d.length z, .slice A j.length B]] (by rfl) rfl rfl (by (try simp only [List.map_toArray, List.map_cons, List.map_nil]); first | done | rfl | (simp only [List.length_drop, List.length_take]; rfl)) ?_
  with_reducible refine (Zak.calls k q s _ _ d _ _ j L M O T _ ?side1 ?side2 ?side3 ?side4 A3.out).mono ?_
  (case side1 => exact cP (zE ak.out HB.out))
  (case side2 => exact al.out)
  (case side3 => exact cP (zE am.out HB.out))
  (case side4 => exact an.out)
  rintro e w9 ⟨ad, aF, rfl, x, ac, hb⟩
  refine ⟨_, rfl, ?_⟩
  have m := mA (zN (zA (ok' := fun k_ => True) x (fun _ hk_ => trivial)) (Zah (bW)))
  have p := mA (xQ (zX (ok' := fun k_ => some k_ ≠ (ad : Value).ownBlock ∧ k_ ≠ c ∧ k_ ≠ v) ac (fun k_ hk_ => ⟨hk_.2, (yA (g := c) (o := .cells #[.int .i64 q, .int .i64 s, .slice y d.length z, .slice A j.length B] 48 (0, 0)) (bP a.out) k_ hk_.1), (yA (g := v) (o := .cells #[.int .i64 u, .slice D l.length E] 32 (0, 0)) (bP b.out) k_ hk_.1)⟩)) (Zah (bW)))
  replace a := mA (blkB a.out hb)
  replace b := mA (blkB b.out hb)
  replace HB := mA (Zac (bW) hb)
  (try clear hb)
  (try clear hb2)
  (try clear hk)
  (try clear hi)
  (try clear x)
  (try clear ac)
  obtain ⟨aG, aH, aq⟩ := zJ m.out
  (first | subst aq | (injection aq with G U I; have X := G.symm; have Y := I.symm; clear G U I; subst X; subst Y))
  obtain ⟨aI, aJ, ar⟩ := xB p.out
  (first | subst ar | (injection ar with G U I; have X := G.symm; have Y := I.symm; clear G U I; subst X; subst Y))
  refine hK.out _ _ ⟨bc a 0, bc a 1, bc a 2, bc a 3, bc b 0, bc b 1⟩ (fun hHeld => ?_)
  clear hK K
  refine putS 6 ?_
  refine one_ (i := 3) (N := some 8) #[true, true, true, true, false, false] rfl rfl (by kernel_rfl) (by decide) (fun K hK => ?_)
  refine Zb0 Tryd.func45 (by kernel_rfl) rfl #[.agg #[.int .i64 L, .int .i64 M, .slice aG O.length aH, .slice aI T.length aJ], .agg #[.int .i64 u, .slice D l.length E]] (by rfl) rfl rfl (by (try simp only [List.map_toArray, List.map_cons, List.map_nil]); first | done | rfl | (simp only [List.length_drop, List.length_take]; rfl)) ?_
  with_reducible refine (Zal.calls k L M _ _ O _ _ T u _ _ l J _ ?side1 ?side2 ?side3 ?side4 ?side5 ?side6 A4.out).mono ?_
  (case side1 => exact cP ((zF m.out).2.2))
  (case side2 => exact (zF m.out).2.1)
  (case side3 => exact cP ((xK p.out).2.2))
  (case side4 => exact (xK p.out).2.1)
  (case side5 => exact cP (zE ao.out HB.out))
  (case side6 => exact ap.out)
  rintro e aU ⟨aK, rfl, x, hb, hnl⟩
  refine ⟨_, rfl, ?_⟩
  have aA : ∀ W, (binOp .eql 22 (.slice none 0 0) (.slice none 0 0)).run Tryd.prog W = .ok (.bool true) W := fun W => Lib.run_eql_slice_nil (P := Tryd.prog) W 22 2 none 0 0 0 0 Tryd.underlying22
  have hz_ := hnl (eq_of_beq (by assumption))
  subst hz_
  clear hnl
  replace m := mA (zI (rP m.out) hb)
  replace p := mA (yT (by (with_reducible repeat (first | apply zP | apply zQ | apply zO)); exact p.out) (zK x) hb)
  have aB := mA (zN x (Zah (bW)))
  replace a := mA (blkB a.out hb)
  replace b := mA (blkB b.out hb)
  replace HB := mA (Zac (bW) hb)
  (try clear hb)
  (try clear hb2)
  (try clear hk)
  (try clear hi)
  (try clear x)
  refine hK.out _ _ ⟨bc a 0, bc a 1, bc a 2, bc a 3, bc b 0, bc b 1⟩ (fun hHeld => ?_)
  clear hK K
  refine putS 8 ?_
  refine Zaq (i := 4) (N := some 9) (by kernel_rfl) ?_
  refine Zaq (i := 5) (N := some 4) (by kernel_rfl) ?_
  refine Zcx (by kernel_rfl) ?_
  try go_wp2
  go_ret
  exact ⟨eW, bW⟩
 rw [if_neg c5] at H
 have aD : (J == []) = false := beq_eq_false_iff_ne.mpr c5
 have aE : (J != []) = true := bne_iff_ne.mpr c5
 obtain rfl := oI H
 go_enter Tryd.func23, Tryd.ntmps23
 try go_wp2_with (first | ((with_reducible refine Zao (N := 2) rfl ?_); refine boxS (N := 2) (cs := #[.int .i64 q, .int .i64 s, .slice y d.length z, .slice A j.length B]) (t := 48) ?_; intro c hg aV hbox hb; have a := mA (hbox); have aw := geW (w := w) hg; have ax := geW (w := w) hg; replace HB := mA (Zac (bW) hb); clear hb hbox hg) | ((with_reducible refine Zao (N := 3) rfl ?_); refine boxS (N := 3) (cs := #[.int .i64 u, .slice D l.length E]) (t := 32) ?_; intro v hg aP hbox hb; have b := mA (hbox); have ay := geW (w := w) hg; have az := geW (w := w) hg; replace HB := mA (Zac (bW) hb); have aa := mA (neB hg a); have ab := mA (neC hg a); replace a := mA (blkB a.out hb); clear hb hbox hg))
 replace a := mA (Zad a.out)
 replace b := mA (Zad b.out)
 replace HB := mA (Zax HB.out)
 refine Zcd (n := 6) (S := fun w' => w'.cell? ⟨c, 0, none⟩ = some (.int .i64 q) ∧ w'.cell? ⟨c, 1, none⟩ = some (.int .i64 s) ∧ w'.cell? ⟨c, 2, none⟩ = some (.slice y d.length z) ∧ w'.cell? ⟨c, 3, none⟩ = some (.slice A j.length B) ∧ w'.cell? ⟨v, 0, none⟩ = some (.int .i64 u) ∧ w'.cell? ⟨v, 1, none⟩ = some (.slice D l.length E)) (ds := []) #[false, false, false, false, false, false] (by kernel_rfl) rfl rfl ⟨bc a 0, bc a 1, bc a 2, bc a 3, bc b 0, bc b 1⟩ (fun hHeld => ?_)
 generalize aP.drew = w15 at a b HB hHeld ⊢
 refine Za7 (i := 0) (N := some 5) (by kernel_rfl) hHeld ?_
 refine Za7 (i := 2) (N := some 7) (by kernel_rfl) hHeld ?_
 refine one_ (i := 1) (N := some 6) #[true, true, true, false, false, false] rfl rfl (by kernel_rfl) (by decide) (fun K hK => ?_)
 refine Zb0 Tryd.func31 (by kernel_rfl) rfl #[.agg #[.int .i64 q, .int .i64 s, .slice y d.length z, .slice A j.length B]] (by rfl) rfl rfl (by (try simp only [List.map_toArray, List.map_cons, List.map_nil]); first | done | rfl | (simp only [List.length_drop, List.length_take]; rfl)) ?_
 with_reducible refine (Zak.calls k q s _ _ d _ _ j L M O T _ ?side1 ?side2 ?side3 ?side4 A3.out).mono ?_
 (case side1 => exact cP (zE ak.out HB.out))
 (case side2 => exact al.out)
 (case side3 => exact cP (zE am.out HB.out))
 (case side4 => exact an.out)
 rintro e aW ⟨ad, aF, rfl, x, ac, hb⟩
 refine ⟨_, rfl, ?_⟩
 have m := mA (zN (zA (ok' := fun k_ => True) x (fun _ hk_ => trivial)) (Zah (bW)))
 have p := mA (xQ (zX (ok' := fun k_ => some k_ ≠ (ad : Value).ownBlock ∧ k_ ≠ c ∧ k_ ≠ v) ac (fun k_ hk_ => ⟨hk_.2, (yA (g := c) (o := .cells #[.int .i64 q, .int .i64 s, .slice y d.length z, .slice A j.length B] 48 (0, 0)) (bP a.out) k_ hk_.1), (yA (g := v) (o := .cells #[.int .i64 u, .slice D l.length E] 32 (0, 0)) (bP b.out) k_ hk_.1)⟩)) (Zah (bW)))
 replace a := mA (blkB a.out hb)
 replace b := mA (blkB b.out hb)
 replace HB := mA (Zac (bW) hb)
 (try clear hb)
 (try clear hb2)
 (try clear hk)
 (try clear hi)
 (try clear x)
 (try clear ac)
 obtain ⟨aL, aM, au⟩ := zJ m.out
 (first | subst au | (injection au with G U I; have X := G.symm; have Y := I.symm; clear G U I; subst X; subst Y))
 obtain ⟨aN, aO, av⟩ := xB p.out
 (first | subst av | (injection av with G U I; have X := G.symm; have Y := I.symm; clear G U I; subst X; subst Y))
 refine hK.out _ _ ⟨bc a 0, bc a 1, bc a 2, bc a 3, bc b 0, bc b 1⟩ (fun hHeld => ?_)
 clear hK K
 refine putS 6 ?_
 refine one_ (i := 3) (N := some 8) #[true, true, true, true, false, false] rfl rfl (by kernel_rfl) (by decide) (fun K hK => ?_)
 refine Zb0 Tryd.func45 (by kernel_rfl) rfl #[.agg #[.int .i64 L, .int .i64 M, .slice aL O.length aM, .slice aN T.length aO], .agg #[.int .i64 u, .slice D l.length E]] (by rfl) rfl rfl (by (try simp only [List.map_toArray, List.map_cons, List.map_nil]); first | done | rfl | (simp only [List.length_drop, List.length_take]; rfl)) ?_
 with_reducible refine (Zal.calls k L M _ _ O _ _ T u _ _ l J _ ?side1 ?side2 ?side3 ?side4 ?side5 ?side6 A4.out).mono ?_
 (case side1 => exact cP ((zF m.out).2.2))
 (case side2 => exact (zF m.out).2.1)
 (case side3 => exact cP ((xK p.out).2.2))
 (case side4 => exact (xK p.out).2.1)
 (case side5 => exact cP (zE ao.out HB.out))
 (case side6 => exact ap.out)
 rintro e aX ⟨aK, rfl, x, hb, hnl⟩
 refine ⟨_, rfl, ?_⟩
 have aA : ∀ W g_ n_ c_, (binOp .eql 22 (.slice (some g_) n_ c_) (.slice none 0 0)).run Tryd.prog W = .ok (.bool false) W := fun W g_ n_ c_ => Lib.run_eql_slice_nil (P := Tryd.prog) W 22 2 (some g_) n_ c_ 0 0 Tryd.underlying22
 obtain ⟨aQ, aR, hz_, _, _, _⟩ := yI x (ne_pos (by assumption))
 subst hz_
 clear hnl
 replace m := mA (zI (rP m.out) hb)
 replace p := mA (yT (by (with_reducible repeat (first | apply zP | apply zQ | apply zO)); exact p.out) (zK x) hb)
 have aB := mA (zN x (Zah (bW)))
 replace a := mA (blkB a.out hb)
 replace b := mA (blkB b.out hb)
 replace HB := mA (Zac (bW) hb)
 (try clear hb)
 (try clear hb2)
 (try clear hk)
 (try clear hi)
 (try clear x)
 refine hK.out _ _ ⟨bc a 0, bc a 1, bc a 2, bc a 3, bc b 0, bc b 1⟩ (fun hHeld => ?_)
 clear hK K
 refine putS 8 ?_
 refine Zaq (i := 4) (N := some 9) (by kernel_rfl) ?_
 refine Zaq (i := 5) (N := some 4) (by kernel_rfl) ?_
 refine Zcx (by kernel_rfl) ?_
 try go_wp2
 go_ret
 exact ⟨eW, bW⟩
def Zdr.f (k : Nat) (b : Int) (c : List Int) (d : Int) (e : Int) (g : Int) (h : List (List Int)) : Option (Bool × Int) := (Zde.f k b c (([(⟨d, e, g, h⟩ : S34)] : List (S34)))).bind fun i => (if i = 0 then ((Zbc.f k d e g h).bind fun a => ((Zc5.f k a.1 a.2.1 a.2.2.1 a.2.2.2 b c).bind fun j => (some (j, 0)))) else (some (false, i)))
theorem Zdr.calls (k : Nat) (v : Int) (z : Option Addr) (A : Nat) (u : List Int) (p : Int) (q : Int) (r : Int) (s : Nat → Prop) (x : Option Addr) (y : Nat) (l : List (List Int)) (r1 : Bool) (r2 : Int) (w : World) (ag : Kd.C (Kd.int .i64) w z u.length u) (ah : u.length ≤ A) (ao : Kd.V (Kd.slice 2 (Kd.int .i64)) 22 w w.heap.size (fun k_ => s k_) (.slice x l.length y) l) (h : Zdr.f k v u p q r l = some (r1, r2)) (hTab : Tab w) :
  Calls Tryd.prog 10 #[.agg #[.int .i64 v, .slice z u.length A], .agg #[.int .i64 p, .int .i64 q, .int .i64 r, .slice x l.length y]] w fun e w' => e = .returned (.tuple #[.bool r1, .int .i64 r2]) ∧ Below w.heap.size w w' := by
 have HTab := mA hTab
 clear hTab
 have bf := Tryd.underlying32
 have bg := Tryd.underlying34
 have T := mA ag
 have U := mA ah
 clear ag ah
 have c := mA (show Kd.V (Kd.slice 2 (Kd.int .i64)) 22 w w.heap.size (fun k_ => (s k_ ∨ w.heap.size ≤ k_)) (.slice x l.length y) l from yN ao (fun k_ hk => .inl hk))
 have HB := mA (Below.refl w.heap.size w)
 unfold Zdr.f at h
 have H := h
 clear h
 obtain ⟨J, W⟩ : ∃ y_ : List (S34), y_ = (([(⟨p, q, r, l⟩ : S34)] : List (S34))) := ⟨_, rfl⟩
 rw [← W] at H
 have P := mA W
 clear W
 replace H := bE H
 obtain ⟨E, av, H⟩ := H
 have A3 := mA av
 clear av
 by_cases c4 : E = 0; rotate_left
 ·rw [if_neg c4] at H
  have ay : (E == 0) = false := beq_eq_false_iff_ne.mpr c4
  have az : (E != 0) = true := bne_iff_ne.mpr c4
  simp only [Option.some.injEq, Prod.mk.injEq] at H
  obtain ⟨rfl, rfl⟩ := H
  go_enter Tryd.func10, Tryd.ntmps10
  go_wp2_with (first | ((with_reducible refine Zao (N := 2) rfl ?_); refine boxS (N := 2) (cs := #[.int .i64 v, .slice z u.length A]) (t := 32) ?_; intro j hg bk hbox hb; replace c := mA (xD (xT (by (with_reducible repeat (first | apply yK | apply yL | apply yH)); exact c.out) j (Nat.le_of_eq hg.symm)) hb); have a := mA (hbox); have ap := geW (w := w) hg; have aq := geW (w := w) hg; replace HB := mA (Zac (bW) hb); clear hb hbox hg) | ((with_reducible refine Zao (N := 3) rfl ?_); refine boxS (N := 3) (cs := #[.int .i64 p, .int .i64 q, .int .i64 r, .slice x l.length y]) (t := 34) ?_; intro d hg a9 hbox hb; replace c := mA (xD (xT (by (with_reducible repeat (first | apply yK | apply yL | apply yH)); exact c.out) d (Nat.le_of_eq hg.symm)) hb); have b := mA (hbox); have ar := geW (w := w) hg; have au := geW (w := w) hg; replace HB := mA (Zac (bW) hb); have B := mA (neB hg a); have D := mA (neC hg a); replace a := mA (blkB a.out hb); clear hb hbox hg; have bb := B.out; have bd := D.out; obtain ⟨aL, aM⟩ := Zc7 a.out; obtain ⟨aN, aO⟩ := frz2 a.out; obtain ⟨aP, aQ, aR, aS⟩ := Zbj b.out; obtain ⟨aT, aU, aV, aW⟩ := frz4 b.out) | ((with_reducible refine Zao (N := 9) rfl ?_); refine Kd.N_lit k34 _ 34 ?hg (N' := 9) ?hd (xs := ([(⟨p, q, r, l⟩ : S34)] : List (S34))) (inner := [.int .i64 p, .int .i64 q, .int .i64 r, .slice x l.length y]) (ok := (fun k_ => (s k_ ∨ w.heap.size ≤ k_) ∧ k_ ≠ j ∧ k_ ≠ d)) (okp := (fun k_ => (s k_ ∨ w.heap.size ≤ k_) ∧ k_ ≠ j ∧ k_ ≠ d)) ?hr ?hp (fun _ hk => hk) ((show ∀ k_, a9.heap.size ≤ k_ → (fun k_ => (s k_ ∨ w.heap.size ≤ k_) ∧ k_ ≠ j ∧ k_ ≠ d) k_ from fun k_ hk => ⟨(.inr (Nat.le_trans (Zah (bW)) hk)), yA (g := j) (o := .cells #[.int .i64 v, .slice z u.length A] 32 (0, 0)) (bP a.out) k_ hk, yA (g := d) (o := .cells #[.int .i64 p, .int .i64 q, .int .i64 r, .slice x l.length y] 34 (0, 0)) (bP b.out) k_ hk⟩) _ (Nat.le_refl _)) (Below.refl _ _) (Nat.le_refl _) (by simp) ?_; (case hd => rfl); (case hg => rfl); (case hr => first | (go_simp; done) | (go_simp; rfl)); (case hp => exact (Reps.c4 (show Kd.FK k34 _ _ (⟨p, q, r, l⟩ : S34) [.int .i64 p, .int .i64 q, .int .i64 r, .slice x l.length y] from (k34_mkF _ _ (⟨p, q, r, l⟩ : S34) (Kd.V_reads' (yN (ok' := (fun k_ => (s k_ ∨ w.heap.size ≤ k_) ∧ k_ ≠ j ∧ k_ ≠ d)) (c.out) (fun k_ hk => ⟨hk.1.1, ⟨hk.1.2, hk.2⟩⟩))).2.1 (Kd.V_F (yN (ok' := (fun k_ => (s k_ ∨ w.heap.size ≤ k_) ∧ k_ ≠ j ∧ k_ ≠ d)) (c.out) (fun k_ hk => ⟨hk.1.1, ⟨hk.1.2, hk.2⟩⟩))))) (Reps.none _ _))); intro aA bl L hb hg_ hnew_; clear hg_ hnew_; (first | rw [← P.out] at L | (simp only [Int.reduceToNat] at L; rw [← P.out] at L)); replace c := mA (Kd.V_elder' (by (with_reducible repeat (first | apply yK | apply yL | apply yH)); exact c.out) (Kd.N_base L) hb); have m := mA (xQ L (Zah (bW))); replace a := mA (blkB a.out hb); replace b := mA (blkB b.out hb); replace HB := mA (Zac (bW) hb); clear hb L; obtain ⟨aB, aC, aD⟩ := xB m.out; subst aD) | ((with_reducible refine Zaw (f := 21) rfl ?_); refine Zbq (some 10) Tryd.func21 #[.agg #[.int .i64 v, .slice z u.length A], .slice aB J.length aC] ?_; (with_reducible refine (Zde.calls k v _ _ u _ _ J E _ ?side1 ?side2 ?side3 ?side4 A3.out (tabW HTab.out)).mono ?_); (case side1 => exact cP (zE T.out HB.out)); (case side2 => exact U.out); (case side3 => exact cP ((xK m.out).2.2)); (case side4 => exact (xK m.out).2.1); rintro e bm ⟨rfl, hb⟩; refine ⟨_, rfl, ?_⟩; replace c := mA (xD (by (with_reducible repeat (first | apply yK | apply yL | apply yH)); exact c.out) hb); replace m := mA (xS (by (with_reducible repeat (first | apply zP | apply zQ | apply zO)); exact m.out) hb); replace a := mA (blkB a.out hb); replace b := mA (blkB b.out hb); replace HB := mA (Zac (bW) hb); (try clear hb); (try clear hb2); (try clear hk); (try clear hi)))
  go_ret2
  exact ⟨eW, bW⟩
 rw [if_pos c4] at H
 have ay : (E == 0) = true := beq_iff_eq.mpr c4
 have az : (E != 0) = false := bne_eq_false_iff_eq.mpr c4
 clear c4
 replace H := bE H
 obtain ⟨⟨aa, ab, ac, ad⟩, A50, H⟩ := H
 try dsimp only at H
 have A5 := mA A50
 clear A50
 replace H := bE H
 obtain ⟨aE, aw, H⟩ := H
 have A6 := mA aw
 clear aw
 simp only [Option.some.injEq, Prod.mk.injEq] at H
 obtain ⟨rfl, rfl⟩ := H
 go_enter Tryd.func10, Tryd.ntmps10
 try go_wp2_with (first | ((with_reducible refine Zao (N := 2) rfl ?_); refine boxS (N := 2) (cs := #[.int .i64 v, .slice z u.length A]) (t := 32) ?_; intro j hg w7 hbox hb; replace c := mA (xD (xT (by (with_reducible repeat (first | apply yK | apply yL | apply yH)); exact c.out) j (Nat.le_of_eq hg.symm)) hb); have a := mA (hbox); have ap := geW (w := w) hg; have aq := geW (w := w) hg; replace HB := mA (Zac (bW) hb); clear hb hbox hg) | ((with_reducible refine Zao (N := 3) rfl ?_); refine boxS (N := 3) (cs := #[.int .i64 p, .int .i64 q, .int .i64 r, .slice x l.length y]) (t := 34) ?_; intro d hg w8 hbox hb; replace c := mA (xD (xT (by (with_reducible repeat (first | apply yK | apply yL | apply yH)); exact c.out) d (Nat.le_of_eq hg.symm)) hb); have b := mA (hbox); have ar := geW (w := w) hg; have au := geW (w := w) hg; replace HB := mA (Zac (bW) hb); have B := mA (neB hg a); have D := mA (neC hg a); replace a := mA (blkB a.out hb); clear hb hbox hg; have bh := B.out; have bi := D.out; obtain ⟨aX, aY⟩ := Zc7 a.out; obtain ⟨aZ, a0⟩ := frz2 a.out; obtain ⟨a1, a2, a3, a4⟩ := Zbj b.out; obtain ⟨a5, a6, a7, a8⟩ := frz4 b.out) | ((with_reducible refine Zao (N := 9) rfl ?_); refine Kd.N_lit k34 _ 34 ?hg (N' := 9) ?hd (xs := ([(⟨p, q, r, l⟩ : S34)] : List (S34))) (inner := [.int .i64 p, .int .i64 q, .int .i64 r, .slice x l.length y]) (ok := (fun k_ => (s k_ ∨ w.heap.size ≤ k_) ∧ k_ ≠ j ∧ k_ ≠ d)) (okp := (fun k_ => (s k_ ∨ w.heap.size ≤ k_) ∧ k_ ≠ j ∧ k_ ≠ d)) ?hr ?hp (fun _ hk => hk) ((show ∀ k_, w8.heap.size ≤ k_ → (fun k_ => (s k_ ∨ w.heap.size ≤ k_) ∧ k_ ≠ j ∧ k_ ≠ d) k_ from fun k_ hk => ⟨(.inr (Nat.le_trans (Zah (bW)) hk)), yA (g := j) (o := .cells #[.int .i64 v, .slice z u.length A] 32 (0, 0)) (bP a.out) k_ hk, yA (g := d) (o := .cells #[.int .i64 p, .int .i64 q, .int .i64 r, .slice x l.length y] 34 (0, 0)) (bP b.out) k_ hk⟩) _ (Nat.le_refl _)) (Below.refl _ _) (Nat.le_refl _) (by simp) ?_; (case hd => rfl); (case hg => rfl); (case hr => first | (go_simp; done) | (go_simp; rfl)); (case hp => exact (Reps.c4 (show Kd.FK k34 _ _ (⟨p, q, r, l⟩ : S34) [.int .i64 p, .int .i64 q, .int .i64 r, .slice x l.length y] from (k34_mkF _ _ (⟨p, q, r, l⟩ : S34) (Kd.V_reads' (yN (ok' := (fun k_ => (s k_ ∨ w.heap.size ≤ k_) ∧ k_ ≠ j ∧ k_ ≠ d)) (c.out) (fun k_ hk => ⟨hk.1.1, ⟨hk.1.2, hk.2⟩⟩))).2.1 (Kd.V_F (yN (ok' := (fun k_ => (s k_ ∨ w.heap.size ≤ k_) ∧ k_ ≠ j ∧ k_ ≠ d)) (c.out) (fun k_ hk => ⟨hk.1.1, ⟨hk.1.2, hk.2⟩⟩))))) (Reps.none _ _))); intro aA bn O hb hg_ hnew_; clear hg_ hnew_; (first | rw [← P.out] at O | (simp only [Int.reduceToNat] at O; rw [← P.out] at O)); replace c := mA (Kd.V_elder' (by (with_reducible repeat (first | apply yK | apply yL | apply yH)); exact c.out) (Kd.N_base O) hb); have m := mA (xQ O (Zah (bW))); replace a := mA (blkB a.out hb); replace b := mA (blkB b.out hb); replace HB := mA (Zac (bW) hb); clear hb O; obtain ⟨ae, af, aF⟩ := xB m.out; subst aF) | ((with_reducible refine Zaw (f := 21) rfl ?_); refine Zbq (some 10) Tryd.func21 #[.agg #[.int .i64 v, .slice z u.length A], .slice ae J.length af] ?_; (with_reducible refine (Zde.calls k v _ _ u _ _ J E _ ?side1 ?side2 ?side3 ?side4 A3.out (tabW HTab.out)).mono ?_); (case side1 => exact cP (zE T.out HB.out)); (case side2 => exact U.out); (case side3 => exact cP ((xK m.out).2.2)); (case side4 => exact (xK m.out).2.1); rintro e ba ⟨rfl, hb⟩; refine ⟨_, rfl, ?_⟩; replace c := mA (xD (by (with_reducible repeat (first | apply yK | apply yL | apply yH)); exact c.out) hb); replace m := mA (xS (by (with_reducible repeat (first | apply zP | apply zQ | apply zO)); exact m.out) hb); replace a := mA (blkB a.out hb); replace b := mA (blkB b.out hb); replace HB := mA (Zac (bW) hb); (try clear hb); (try clear hb2); (try clear hk); (try clear hi)))
 replace c := mA (yH c.out)
 replace m := mA (zO m.out)
 replace a := mA (Zad a.out)
 replace b := mA (Zad b.out)
 replace HB := mA (Zax HB.out)
 refine Zcd (n := 6) (S := fun w' => w'.cell? ⟨d, 0, none⟩ = some (.int .i64 p) ∧ w'.cell? ⟨d, 1, none⟩ = some (.int .i64 q) ∧ w'.cell? ⟨d, 2, none⟩ = some (.int .i64 r) ∧ w'.cell? ⟨d, 3, none⟩ = some (.slice x l.length y) ∧ w'.cell? ⟨j, 0, none⟩ = some (.int .i64 v) ∧ w'.cell? ⟨j, 1, none⟩ = some (.slice z u.length A)) (ds := []) #[false, false, false, false, false, false] (by kernel_rfl) rfl rfl ⟨bc b 0, bc b 1, bc b 2, bc b 3, bc a 0, bc a 1⟩ (fun hHeld => ?_)
 generalize ba.drew = w16 at c m a b HB hHeld ⊢
 refine Za7 (i := 0) (N := some 14) (by kernel_rfl) hHeld ?_
 refine Za7 (i := 2) (N := some 16) (by kernel_rfl) hHeld ?_
 refine one_ (i := 1) (N := some 15) #[true, true, true, false, false, false] rfl rfl (by kernel_rfl) (by decide) (fun K hK => ?_)
 refine Zb0 Tryd.func22 (by kernel_rfl) rfl #[.agg #[.int .i64 p, .int .i64 q, .int .i64 r, .slice x l.length y]] (by rfl) rfl rfl (by (try simp only [List.map_toArray, List.map_cons, List.map_nil]); first | done | rfl | (simp only [List.length_drop, List.length_take]; rfl)) ?_
 with_reducible refine (Zbc.calls k p q r (fun k_ => ((((s k_ ∨ w.heap.size ≤ k_) ∧ k_ ≠ j) ∧ k_ ≠ d) ∧ some k_ ≠ (.slice ae J.length af : Value).ownBlock)) _ _ l aa ab ac ad _ ?side1 A5.out).mono ?_
 (case side1 => exact c.out)
 rintro e bo ⟨aG, bj, rfl, ai, ax, hb⟩
 refine ⟨_, rfl, ?_⟩
 replace c := mA (Kd.V_elder' (by (with_reducible repeat (first | apply yK | apply yL | apply yH)); exact c.out) (zK ai) hb)
 have G := mA (zN (yO (M := fun k_ => (w.heap.size ≤ k_)) (zA (ok' := fun k_ => True) ai (fun _ hk_ => trivial)) (Zah (bW)) (fun k_ h_ => h_)) (Zah (bW)))
 have I := mA (Kd.V_lower (yN (ok' := fun k_ => (s k_ ∨ w.heap.size ≤ k_) ∧ some k_ ≠ (aG : Value).ownBlock ∧ some k_ ≠ (.slice ae J.length af : Value).ownBlock ∧ k_ ≠ j ∧ k_ ≠ d) ax (fun k_ hk_ => ⟨Or.elim hk_.1 (fun hs_ => hs_.1.1.1) (fun hn_ => (.inr (Nat.le_trans (Zah (bW)) hn_))), hk_.2, Or.elim hk_.1 (fun hs_ => hs_.2) (fun hn_ => (zR (Kd.N_lt (by (with_reducible repeat (first | apply zP | apply zQ | apply zO)); exact m.out)) k_ hn_)), Or.elim hk_.1 (fun hs_ => hs_.1.1.2) (fun hn_ => (yA (g := j) (o := .cells #[.int .i64 v, .slice z u.length A] 32 (0, 0)) (bP a.out) k_ hn_)), Or.elim hk_.1 (fun hs_ => hs_.1.2) (fun hn_ => (yA (g := d) (o := .cells #[.int .i64 p, .int .i64 q, .int .i64 r, .slice x l.length y] 34 (0, 0)) (bP b.out) k_ hn_))⟩)) (Zah (bW)))
 replace m := mA (yT (by (with_reducible repeat (first | apply zP | apply zQ | apply zO)); exact m.out) (zK ai) hb)
 replace a := mA (blkB a.out hb)
 replace b := mA (blkB b.out hb)
 replace HB := mA (Zac (bW) hb)
 (try clear hb)
 (try clear hb2)
 (try clear hk)
 (try clear hi)
 (try clear ai)
 (try clear ax)
 obtain ⟨aH, aI, aj⟩ := zJ G.out
 (first | subst aj | (injection aj with X ak Y; have al := X.symm; have am := Y.symm; clear X ak Y; subst al; subst am))
 obtain ⟨aJ, aK, an⟩ := Kd.V_slice I.out
 (first | subst an | (injection an with X ak Y; have al := X.symm; have am := Y.symm; clear X ak Y; subst al; subst am))
 refine hK.out _ _ ⟨bc b 0, bc b 1, bc b 2, bc b 3, bc a 0, bc a 1⟩ (fun hHeld => ?_)
 clear hK K
 refine putS 15 ?_
 refine one_ (i := 3) (N := some 17) #[true, true, true, true, false, false] rfl rfl (by kernel_rfl) (by decide) (fun K hK => ?_)
 refine Zb0 Tryd.func23 (by kernel_rfl) rfl #[.agg #[.int .i64 aa, .int .i64 ab, .slice aH ac.length aI, .slice aJ ad.length aK], .agg #[.int .i64 v, .slice z u.length A]] (by rfl) rfl rfl (by (try simp only [List.map_toArray, List.map_cons, List.map_nil]); first | done | rfl | (simp only [List.length_drop, List.length_take]; rfl)) ?_
 with_reducible refine (Zc5.calls k aa ab _ _ ac _ _ ad v _ _ u aE _ ?side1 ?side2 ?side3 ?side4 ?side5 ?side6 A6.out).mono ?_
 (case side1 => exact cP ((zF G.out).2.2))
 (case side2 => exact (zF G.out).2.1)
 (case side3 => exact cP ((Kd.V_reads' I.out).2.2))
 (case side4 => exact (Kd.V_reads' I.out).2.1)
 (case side5 => exact cP (zE T.out HB.out))
 (case side6 => exact U.out)
 rintro e bp ⟨rfl, hb⟩
 refine ⟨_, rfl, ?_⟩
 replace c := mA (xD (by (with_reducible repeat (first | apply yK | apply yL | apply yH)); exact c.out) hb)
 replace m := mA (xS (by (with_reducible repeat (first | apply zP | apply zQ | apply zO)); exact m.out) hb)
 replace G := mA (zI (rP G.out) hb)
 replace I := mA (xD (by (with_reducible repeat (first | apply yK | apply yL | apply yH)); exact I.out) hb)
 replace a := mA (blkB a.out hb)
 replace b := mA (blkB b.out hb)
 replace HB := mA (Zac (bW) hb)
 (try clear hb)
 (try clear hb2)
 (try clear hk)
 (try clear hi)
 refine hK.out _ _ ⟨bc b 0, bc b 1, bc b 2, bc b 3, bc a 0, bc a 1⟩ (fun hHeld => ?_)
 clear hK K
 refine putS 17 ?_
 refine Zaq (i := 4) (N := some 4) (by kernel_rfl) ?_
 refine Zaq (i := 5) (N := some 5) (by kernel_rfl) ?_
 refine Zcx (by kernel_rfl) ?_
 try go_wp2
 go_ret2
 exact ⟨eW, bW⟩
def Zbh.l0 : Nat → List Int → List Int → Int → Option (Bool)
 | 0, _, _, _ => none
 | k + 1, x0, x1, x5 => if x5 < (x0.length : Int) then (if 0 ≤ x5 then (if x5 < (x1.length : Int) then (if (rd x0 x5) = (rd x1 x5) then (Zbh.l0 k x0 x1 (wrap64 (x5 + 1))) else (some false)) else (none)) else (none)) else (some true)
def Zbh.f (k : Nat) (l0 : List Int) (l1 : List Int) : Option (Bool) := if (l0.length : Int) = (l1.length : Int) then (Zbh.l0 k l0 l1 0) else (some false)
theorem Zbh.calls (k : Nat) (A0 : Option Addr) (c0 : Nat) (l0 : List Int) (A1 : Option Addr) (c1 : Nat) (l1 : List Int) (r : Bool) (w : World) (t : Kd.C (Kd.int .i64) w A0 l0.length l0) (u : l0.length ≤ c0) (v : Kd.C (Kd.int .i64) w A1 l1.length l1) (x : l1.length ≤ c1) (h : Zbh.f k l0 l1 = some r) :
  Calls Tryd.prog 24 #[.slice A0 l0.length c0, .slice A1 l1.length c1] w fun e w' => e = .returned (.bool r) ∧ Zas w w' := by
 have y := mA t
 have I := mA u
 clear t u
 have z := mA v
 have J := mA x
 clear v x
 unfold Zbh.f at h
 have H := h
 clear h
 by_cases c3 : (l0.length : Int) = (l1.length : Int); rotate_left
 ·rw [if_neg c3] at H
  have n : ((l0.length : Int) == (l1.length : Int)) = false := beq_eq_false_iff_ne.mpr c3
  have o : ((l0.length : Int) != (l1.length : Int)) = true := bne_iff_ne.mpr c3
  have p : (l0.length == l1.length) = false := by first | simpa using c3 | (simp at c3 ⊢; omega)
  obtain rfl := oI H
  go_enter Tryd.func24, Tryd.ntmps24
  go_wp2
  repeat (go_quiet (fail); try go_wp2)
  go_ret
  exact ⟨eW, by repeat (first | exact Zas.refl _ | apply Zas.step)⟩
 rw [if_pos c3] at H
 have n : ((l0.length : Int) == (l1.length : Int)) = true := beq_iff_eq.mpr c3
 have o : ((l0.length : Int) != (l1.length : Int)) = false := bne_eq_false_iff_eq.mpr c3
 have p : (l0.length == l1.length) = true := by first | simpa using c3 | (simp at c3 ⊢; omega)
 clear c3
 have H' := mA H
 clear H
 go_enter Tryd.func24, Tryd.ntmps24
 go_wp2
 repeat (go_quiet (fail); try go_wp2)
 go_loopg [5] k (fun kq v5 w' => ∃ (a : Int), v5 = .int .i64 a ∧ Zaa (Zbh.l0 kq l0 l1 a = some r) ∧ Zaa (kq ≤ k) ∧ Zas w w')
 case atStart => exact ⟨(0), (eW), H', ⟨Nat.le_refl _⟩, by repeat (first | exact Zas.refl _ | apply Zas.step)⟩
 case round =>
  clear H' n o p
  obtain ⟨a, rfl, HA, HK1, ⟨m1, rfl⟩⟩ := hrel
  cases gk with
  | zero => exact absurd HA.out (by simp [Zbh.l0])
  | succ k1 =>
   have H := HA.out
   clear HA
   simp only [Zbh.l0] at H
   by_cases c4 : a < (l0.length : Int); rotate_left
   ·rw [if_neg c4] at H
    have A := dF c4
    clear c4
    obtain rfl := oI H
    go_wp2
    repeat (go_quiet (fail); try go_wp2)
    go_ret
    exact ⟨eW, by repeat (first | exact Zas.refl _ | apply Zas.step)⟩
   rw [if_pos c4] at H
   have A := dT c4
   clear c4
   by_cases c5 : 0 ≤ a; rotate_left
   ·rw [if_neg c5] at H
    exact absurd H (by simp)
   rw [if_pos c5] at H
   have E := dT c5
   clear c5
   by_cases c6 : a < (l1.length : Int); rotate_left
   ·rw [if_neg c6] at H
    exact absurd H (by simp)
   rw [if_pos c6] at H
   have G := dT c6
   clear c6
   by_cases c7 : (rd l0 a) = (rd l1 a); rotate_left
   ·rw [if_neg c7] at H
    have B : ((rd l0 a) == (rd l1 a)) = false := beq_eq_false_iff_ne.mpr c7
    have D : ((rd l0 a) != (rd l1 a)) = true := bne_iff_ne.mpr c7
    obtain rfl := oI H
    have b : 0 ≤ (a : Int) := ofD
    have c : a < (l0.length : Int) := ofD
    obtain ⟨q, i, l⟩ := zH y.out a b c
    cases i
    replace b := eq_true b
    replace c := eq_true c
    have d : 0 ≤ (a : Int) := ofD
    have g : a < (l1.length : Int) := ofD
    obtain ⟨s, j, m⟩ := zH z.out a d g
    cases j
    replace d := eq_true d
    replace g := eq_true g
    go_wp2
    repeat (go_quiet (fail); try go_wp2)
    go_ret
    exact ⟨eW, by repeat (first | exact Zas.refl _ | apply Zas.step)⟩
   rw [if_pos c7] at H
   have B : ((rd l0 a) == (rd l1 a)) = true := beq_iff_eq.mpr c7
   have D : ((rd l0 a) != (rd l1 a)) = false := bne_eq_false_iff_eq.mpr c7
   clear c7
   have H' := mA H
   clear H
   have b : 0 ≤ (a : Int) := ofD
   have c : a < (l0.length : Int) := ofD
   obtain ⟨q, i, l⟩ := zH y.out a b c
   cases i
   replace b := eq_true b
   replace c := eq_true c
   have d : 0 ≤ (a : Int) := ofD
   have g : a < (l1.length : Int) := ofD
   obtain ⟨s, j, m⟩ := zH z.out a d g
   cases j
   replace d := eq_true d
   replace g := eq_true g
   go_wp2
   repeat (go_quiet (fail); try go_wp2)
   go_roundg k1
   case measure => have := HK1.out; omega
   case rel => exact ⟨(wrap64 (a + 1)), (eW), H', ⟨by have := HK1.out; omega⟩, by repeat (first | exact Zas.refl _ | apply Zas.step)⟩
def Zdh.f (k : Nat) (a : Int) (b : List Int) (c : Int) (d : List Int) : Option (Bool) := if a = c then ((Zbh.f k b d).bind fun e => (if e = true then (some true) else (some false))) else (some false)
theorem Zdh.calls (k : Nat) (j : Int) (m : Option Addr) (n : Nat) (d : List Int) (l : Int) (o : Option Addr) (p : Nat) (g : List Int) (r : Bool) (w : World) (q : Kd.C (Kd.int .i64) w m d.length d) (s : d.length ≤ n) (u : Kd.C (Kd.int .i64) w o g.length g) (v : g.length ≤ p) (h : Zdh.f k j d l g = some r) :
  Calls Tryd.prog 11 #[.agg #[.int .i64 j, .slice m d.length n], .agg #[.int .i64 l, .slice o g.length p]] w fun e w' => e = .returned (.bool r) ∧ Below w.heap.size w w' := by
 have ay := Tryd.underlying32
 have x := mA q
 have y := mA s
 clear q s
 have z := mA u
 have A := mA v
 clear u v
 have HB := mA (Below.refl w.heap.size w)
 unfold Zdh.f at h
 have H := h
 clear h
 by_cases c3 : j = l; rotate_left
 ·rw [if_neg c3] at H
  have L : (j == l) = false := beq_eq_false_iff_ne.mpr c3
  have M : (j != l) = true := bne_iff_ne.mpr c3
  obtain rfl := oI H
  go_enter Tryd.func11, Tryd.ntmps11
  go_wp2_with (first | ((with_reducible refine Zao (N := 2) rfl ?_); refine boxS (N := 2) (cs := #[.int .i64 j, .slice m d.length n]) (t := 32) ?_; intro B hg aB hbox hb; have a := mA (hbox); have D := geW (w := w) hg; have E := geW (w := w) hg; replace HB := mA (Zac (bW) hb); clear hb hbox hg) | ((with_reducible refine Zao (N := 3) rfl ?_); refine boxS (N := 3) (cs := #[.int .i64 l, .slice o g.length p]) (t := 32) ?_; intro G hg aC hbox hb; have i := mA (hbox); have I := geW (w := w) hg; have J := geW (w := w) hg; replace HB := mA (Zac (bW) hb); have b := mA (neB hg a); have c := mA (neC hg a); replace a := mA (blkB a.out hb); clear hb hbox hg; have au := b.out; have av := c.out; obtain ⟨P, T⟩ := Zc7 a.out; obtain ⟨U, W⟩ := frz2 a.out; obtain ⟨X, Y⟩ := Zc7 i.out; obtain ⟨aa, ab⟩ := frz2 i.out))
  go_ret
  exact ⟨eW, bW⟩
 rw [if_pos c3] at H
 have L : (j == l) = true := beq_iff_eq.mpr c3
 have M : (j != l) = false := bne_eq_false_iff_eq.mpr c3
 clear c3
 replace H := bE H
 obtain ⟨O, K, H⟩ := H
 have A4 := mA K
 clear K
 by_cases c5 : O = true
 ·subst c5
  rw [if_pos rfl] at H
  obtain rfl := oI H
  go_enter Tryd.func11, Tryd.ntmps11
  go_wp2_with (first | ((with_reducible refine Zao (N := 2) rfl ?_); refine boxS (N := 2) (cs := #[.int .i64 j, .slice m d.length n]) (t := 32) ?_; intro B hg w6 hbox hb; have a := mA (hbox); have D := geW (w := w) hg; have E := geW (w := w) hg; replace HB := mA (Zac (bW) hb); clear hb hbox hg) | ((with_reducible refine Zao (N := 3) rfl ?_); refine boxS (N := 3) (cs := #[.int .i64 l, .slice o g.length p]) (t := 32) ?_; intro G hg w7 hbox hb; have i := mA (hbox); have I := geW (w := w) hg; have J := geW (w := w) hg; replace HB := mA (Zac (bW) hb); have b := mA (neB hg a); have c := mA (neC hg a); replace a := mA (blkB a.out hb); clear hb hbox hg; have az := b.out; have aA := c.out; obtain ⟨ao, ap⟩ := Zc7 a.out; obtain ⟨aq, ar⟩ := frz2 a.out; obtain ⟨ac, ad⟩ := Zc7 i.out; obtain ⟨ae, af⟩ := frz2 i.out) | ((with_reducible refine Zaw (f := 24) rfl ?_); refine Zbq (some 14) Tryd.func24 #[.slice m d.length n, .slice o g.length p] ?_; (with_reducible refine (Zbh.calls k _ _ d _ _ g true _ ?side1 ?side2 ?side3 ?side4 A4.out).mono ?_); (case side1 => exact cP (zE x.out HB.out)); (case side2 => exact y.out); (case side3 => exact cP (zE z.out HB.out)); (case side4 => exact A.out); rintro e w' ⟨rfl, ⟨nd, rfl⟩⟩; refine ⟨_, rfl, ?_⟩))
  go_ret
  exact ⟨eW, bW⟩
 replace c5 := Bool.eq_false_iff.mpr c5
 subst c5
 rw [iF] at H
 obtain rfl := oI H
 go_enter Tryd.func11, Tryd.ntmps11
 go_wp2_with (first | ((with_reducible refine Zao (N := 2) rfl ?_); refine boxS (N := 2) (cs := #[.int .i64 j, .slice m d.length n]) (t := 32) ?_; intro B hg aD hbox hb; have a := mA (hbox); have D := geW (w := w) hg; have E := geW (w := w) hg; replace HB := mA (Zac (bW) hb); clear hb hbox hg) | ((with_reducible refine Zao (N := 3) rfl ?_); refine boxS (N := 3) (cs := #[.int .i64 l, .slice o g.length p]) (t := 32) ?_; intro G hg aE hbox hb; have i := mA (hbox); have I := geW (w := w) hg; have J := geW (w := w) hg; replace HB := mA (Zac (bW) hb); have b := mA (neB hg a); have c := mA (neC hg a); replace a := mA (blkB a.out hb); clear hb hbox hg; have aw := b.out; have ax := c.out; obtain ⟨ag, ah⟩ := Zc7 a.out; obtain ⟨ai, aj⟩ := frz2 a.out; obtain ⟨ak, al⟩ := Zc7 i.out; obtain ⟨am, an⟩ := frz2 i.out) | ((with_reducible refine Zaw (f := 24) rfl ?_); refine Zbq (some 14) Tryd.func24 #[.slice m d.length n, .slice o g.length p] ?_; (with_reducible refine (Zbh.calls k _ _ d _ _ g false _ ?side1 ?side2 ?side3 ?side4 A4.out).mono ?_); (case side1 => exact cP (zE x.out HB.out)); (case side2 => exact y.out); (case side3 => exact cP (zE z.out HB.out)); (case side4 => exact A.out); rintro e w' ⟨rfl, ⟨nd, rfl⟩⟩; refine ⟨_, rfl, ?_⟩))
 go_ret
 exact ⟨eW, bW⟩
def Zbs.l0 : Nat → List (List Int) → List (List Int) → Int → Option (Bool)
 | 0, _, _, _ => none
 | k + 1, x0, x1, x5 => if x5 < (x0.length : Int) then (if 0 ≤ x5 then (if x5 < (x1.length : Int) then ((Zbh.f k (Zag x0 x5) (Zag x1 x5)).bind fun a => (if a = true then (Zbs.l0 k x0 x1 (wrap64 (x5 + 1))) else (some false))) else (none)) else (none)) else (some true)
def Zbs.f (k : Nat) (l0 : List (List Int)) (l1 : List (List Int)) : Option (Bool) := if (l0.length : Int) = (l1.length : Int) then (Zbs.l0 k l0 l1 0) else (some false)
theorem Zbs.calls (k : Nat) (A0 : Option Addr) (c0 : Nat) (l0 : List (List Int)) (A1 : Option Addr) (c1 : Nat) (l1 : List (List Int)) (r : Bool) (w : World) (J : Kd.C (Kd.slice 2 (Kd.int .i64)) w A0 l0.length l0) (K : l0.length ≤ c0) (L : Kd.C (Kd.slice 2 (Kd.int .i64)) w A1 l1.length l1) (M : l1.length ≤ c1) (h : Zbs.f k l0 l1 = some r) :
  Calls Tryd.prog 25 #[.slice A0 l0.length c0, .slice A1 l1.length c1] w fun e w' => e = .returned (.bool r) ∧ Zas w w' := by
 have O := mA J
 have aa := mA K
 clear J K
 have P := mA L
 have ab := mA M
 clear L M
 unfold Zbs.f at h
 have H := h
 clear h
 by_cases c3 : (l0.length : Int) = (l1.length : Int); rotate_left
 ·rw [if_neg c3] at H
  have x : ((l0.length : Int) == (l1.length : Int)) = false := beq_eq_false_iff_ne.mpr c3
  have y : ((l0.length : Int) != (l1.length : Int)) = true := bne_iff_ne.mpr c3
  have z : (l0.length == l1.length) = false := by first | simpa using c3 | (simp at c3 ⊢; omega)
  obtain rfl := oI H
  go_enter Tryd.func25, Tryd.ntmps25
  go_wp2
  repeat (go_quiet (fail); try go_wp2)
  go_ret
  exact ⟨eW, by repeat (first | exact Zas.refl _ | apply Zas.step)⟩
 rw [if_pos c3] at H
 have x : ((l0.length : Int) == (l1.length : Int)) = true := beq_iff_eq.mpr c3
 have y : ((l0.length : Int) != (l1.length : Int)) = false := bne_eq_false_iff_eq.mpr c3
 have z : (l0.length == l1.length) = true := by first | simpa using c3 | (simp at c3 ⊢; omega)
 clear c3
 have H' := mA H
 clear H
 go_enter Tryd.func25, Tryd.ntmps25
 go_wp2
 repeat (go_quiet (fail); try go_wp2)
 go_loopg [5] k (fun kq v5 w' => ∃ (a : Int), v5 = .int .i64 a ∧ Zaa (Zbs.l0 kq l0 l1 a = some r) ∧ Zaa (kq ≤ k) ∧ Zas w w')
 case atStart => exact ⟨(0), (eW), H', ⟨Nat.le_refl _⟩, by repeat (first | exact Zas.refl _ | apply Zas.step)⟩
 case round =>
  clear H' x y z
  obtain ⟨a, rfl, HA, HK1, ⟨m1, rfl⟩⟩ := hrel
  cases gk with
  | zero => exact absurd HA.out (by simp [Zbs.l0])
  | succ k1 =>
   have H := HA.out
   clear HA
   simp only [Zbs.l0] at H
   by_cases c4 : a < (l0.length : Int); rotate_left
   ·rw [if_neg c4] at H
    have U := dF c4
    clear c4
    obtain rfl := oI H
    go_wp2
    repeat (go_quiet (fail); try go_wp2)
    go_ret
    exact ⟨eW, by repeat (first | exact Zas.refl _ | apply Zas.step)⟩
   rw [if_pos c4] at H
   have U := dT c4
   clear c4
   by_cases c5 : 0 ≤ a; rotate_left
   ·rw [if_neg c5] at H
    exact absurd H (by simp)
   rw [if_pos c5] at H
   have X := dT c5
   clear c5
   by_cases c6 : a < (l1.length : Int); rotate_left
   ·rw [if_neg c6] at H
    exact absurd H (by simp)
   rw [if_pos c6] at H
   have Y := dT c6
   clear c6
   replace H := bE H
   obtain ⟨W, T, H⟩ := H
   have A7 := mA T
   clear T
   by_cases c8 : W = true; rotate_left
   ·replace c8 := Bool.eq_false_iff.mpr c8
    subst c8
    rw [iF] at H
    obtain rfl := oI H
    have n : 0 ≤ (a : Int) := ofD
    have o : a < (l0.length : Int) := ofD
    obtain ⟨G, A, B, s, u, i, j⟩ := Zcu O.out a n o
    cases s
    have b := mA j
    have c := mA i
    clear j i
    replace n := eq_true n
    replace o := eq_true o
    have p : 0 ≤ (a : Int) := ofD
    have q : a < (l1.length : Int) := ofD
    obtain ⟨I, D, E, t, v, l, m⟩ := Zcu P.out a p q
    cases t
    have d := mA m
    have g := mA l
    clear m l
    replace p := eq_true p
    replace q := eq_true q
    go_wp2_with (first | (go_at_call 24; (with_reducible refine (Zbh.calls k1 _ _ (Zag l0 a) _ _ (Zag l1 a) false _ ?side1 ?side2 ?side3 ?side4 A7.out).mono ?_); (case side1 => exact cP b.out); (case side2 => exact c.out); (case side3 => exact cP d.out); (case side4 => exact g.out); rintro e w' ⟨rfl, ⟨nd, rfl⟩⟩; (try first | exact dwD | exact dwE)))
    repeat (go_quiet (first | (go_at_call 24; (with_reducible refine (Zbh.calls k1 _ _ (Zag l0 a) _ _ (Zag l1 a) false _ ?side1 ?side2 ?side3 ?side4 A7.out).mono ?_); (case side1 => exact cP b.out); (case side2 => exact c.out); (case side3 => exact cP d.out); (case side4 => exact g.out); rintro e w' ⟨rfl, ⟨nd, rfl⟩⟩; (try first | exact dwD | exact dwE))); try go_wp2_with (first | (go_at_call 24; (with_reducible refine (Zbh.calls k1 _ _ (Zag l0 a) _ _ (Zag l1 a) false _ ?side1 ?side2 ?side3 ?side4 A7.out).mono ?_); (case side1 => exact cP b.out); (case side2 => exact c.out); (case side3 => exact cP d.out); (case side4 => exact g.out); rintro e w' ⟨rfl, ⟨nd, rfl⟩⟩; (try first | exact dwD | exact dwE))))
    go_ret
    exact ⟨eW, by repeat (first | exact Zas.refl _ | apply Zas.step)⟩
   subst c8
   rw [if_pos rfl] at H
   have H' := mA H
   clear H
   have n : 0 ≤ (a : Int) := ofD
   have o : a < (l0.length : Int) := ofD
   obtain ⟨G, A, B, s, u, i, j⟩ := Zcu O.out a n o
   cases s
   have b := mA j
   have c := mA i
   clear j i
   replace n := eq_true n
   replace o := eq_true o
   have p : 0 ≤ (a : Int) := ofD
   have q : a < (l1.length : Int) := ofD
   obtain ⟨I, D, E, t, v, l, m⟩ := Zcu P.out a p q
   cases t
   have d := mA m
   have g := mA l
   clear m l
   replace p := eq_true p
   replace q := eq_true q
   go_wp2_with (first | (go_at_call 24; (with_reducible refine (Zbh.calls k1 _ _ (Zag l0 a) _ _ (Zag l1 a) true _ ?side1 ?side2 ?side3 ?side4 A7.out).mono ?_); (case side1 => exact cP b.out); (case side2 => exact c.out); (case side3 => exact cP d.out); (case side4 => exact g.out); rintro e w' ⟨rfl, ⟨nd, rfl⟩⟩; (try first | exact dwD | exact dwE)))
   repeat (go_quiet (first | (go_at_call 24; (with_reducible refine (Zbh.calls k1 _ _ (Zag l0 a) _ _ (Zag l1 a) true _ ?side1 ?side2 ?side3 ?side4 A7.out).mono ?_); (case side1 => exact cP b.out); (case side2 => exact c.out); (case side3 => exact cP d.out); (case side4 => exact g.out); rintro e w' ⟨rfl, ⟨nd, rfl⟩⟩; (try first | exact dwD | exact dwE))); try go_wp2_with (first | (go_at_call 24; (with_reducible refine (Zbh.calls k1 _ _ (Zag l0 a) _ _ (Zag l1 a) true _ ?side1 ?side2 ?side3 ?side4 A7.out).mono ?_); (case side1 => exact cP b.out); (case side2 => exact c.out); (case side3 => exact cP d.out); (case side4 => exact g.out); rintro e w' ⟨rfl, ⟨nd, rfl⟩⟩; (try first | exact dwD | exact dwE))))
   go_roundg k1
   case measure => have := HK1.out; omega
   case rel => exact ⟨(wrap64 (a + 1)), (eW), H', ⟨by have := HK1.out; omega⟩, by repeat (first | exact Zas.refl _ | apply Zas.step)⟩
end Go.Proofs.YtgindgodfcfgkaaDoor.P
end M0
