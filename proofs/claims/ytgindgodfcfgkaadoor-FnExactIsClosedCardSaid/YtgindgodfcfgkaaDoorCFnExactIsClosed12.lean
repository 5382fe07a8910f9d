import Derived.Test.YtgindgodfcfgkaaDoorCFnExactIsClosed11
set_option maxHeartbeats 8000000
set_option maxRecDepth 100000
section M0
namespace Go.Proofs.YtgindgodfcfgkaaDoor.P
open Go.RowKit Go.Proofs.YtgindgodfcfgkaaDoor.Sh Go.Proofs.YtgindgodfcfgkaaDoorW.PrintWords Go.Proofs.YtgindgodfcfgkaaDoorW.PrintLast Go.Proofs.YtgindgodfcfgkaaDoorW.PrintMore
open Kd
attribute [local go_sem] Zcp Zcq Zc0 Zcy Zcf Zcg Zcr Zcs   -- for this text's walks alone
set_option linter.unusedVariables false
set_option linter.unusedSimpArgs false
mutual
def Zav.j0 : Nat → Bool → Int → List Int → Option (Bool)
 | 0, _, _, _ => none
 | k + 1, d, b, a => if d = true then (some false) else ((Za4.f k a).bind fun c => (Zav.l0 k c (c.length : Int) 0 b a))
def Zav.l0 : Nat → List Int → Int → Int → Int → List Int → Option (Bool)
 | 0, _, _, _, _, _ => none
 | k + 1, c, e, a, d, b => if a < e then (if 0 ≤ a then (if a < (c.length : Int) then (if a < (b.length : Int) then (if (rd c a) = (rd b a) then ((Zdg.f (rd c a) a).bind fun g => (if g = true then (Zav.l0 k c e (wrap64 (a + 1)) d b) else (some false))) else (some false)) else (none)) else (none)) else (none)) else (some true)
end
def Zav.f (k : Nat) (a : Int) (b : List Int) : Option (Bool) := (Zbu.f a 0 8).bind fun c => (if c = true then ((Zbm.f b).bind fun d => (if d = a then ((Zdi.f b).bind fun e => (Zav.j0 k (!e) a b)) else (Zav.j0 k true a b))) else (Zav.j0 k true a b))
def Zav.T1 : Bool × List (List Nat × List Nat) := (true, [([], []), ([0], [0]), ([1], [1]), ([2], [2]), ([3, 2], [3]), ([4], [4]), ([5, 4], [4, 5]), ([6, 4, 4], [4, 6]), ([4], [4]), ([8, 4], [4, 8]), ([7, 9, 4], [4, 7, 9]), ([4, 10], [4, 10]), ([11, 7], [11]), ([12], [12]), ([13, 12], [12, 13]), ([14, 12, 12], [12, 14]), ([15, 12], [12, 15]), ([12, 16], [12, 16])])
def Zav.B1 : List Nat := [0, 1, 3, 7, 15, 31, 63, 127, 31, 287, 1023, 2047, 4095, 8191, 16383, 32767, 65535, 131071]
theorem Zav.tab1 : rtab .any (opsOf Tryd.f39 1) = Zav.T1 := by kernel_rfl
theorem Zav.bits1 : Zck Zav.T1.2 Zav.B1 = true := by kernel_rfl
theorem Zav.calls (k : Nat) (d : Int) (m : Option Addr) (o : Nat) (c : List Int) (r : Bool) (w : World) (L : Kd.C (Kd.int .i64) w m c.length c) (M : c.length ≤ o) (h : Zav.f k d c = some r) (hTab : Tab w) :
  Calls Tryd.prog 39 #[.agg #[.int .i64 d, .slice m c.length o]] w fun e w' => e = .returned (.bool r) ∧ Below w.heap.size w w' := by
 have HTab := mA hTab
 clear hTab
 have aU := Tryd.underlying32
 have v := mA L
 have y := mA M
 clear L M
 have HB := mA (Below.refl w.heap.size w)
 unfold Zav.f at h
 have H := h
 clear h
 have af := mA H
 clear H
 go_enter Tryd.func39, Tryd.ntmps39
 go_upto_region 1 with (first | ((with_reducible refine Zao (N := 1) rfl ?_); refine boxS (N := 1) (cs := #[.int .i64 d, .slice m c.length o]) (t := 32) ?_; intro g hg w3 hbox hb; have a := mA (hbox); have aP := geW (w := w) hg; have aQ := geW (w := w) hg; replace HB := mA (Zac (bW) hb); clear hb hbox hg))
 (try simp only [Act.put, List.setIfInBounds_toArray, List.set_cons_zero, List.set_cons_succ])
 go_cut [22] (fun v22 wc => ∃ (kq : Nat) (z : Bool), v22 = .bool z ∧ Zaa (Zav.j0 kq z d c = some r) ∧ Zaa (kq ≤ k) ∧ Zaa (wc.heap[g]? = some (.cells #[.int .i64 d, (.slice m c.length o)] 32 (0, 0))) ∧ Zaa (Below w.heap.size w wc))
 case first =>
  have H := af.out
  clear af
  replace H := bE H
  obtain ⟨aw, an, H⟩ := H
  have A4 := mA an
  clear an
  by_cases c5 : aw = true; rotate_left
  ·replace c5 := Bool.eq_false_iff.mpr c5
   subst c5
   rw [iF] at H
   have H' := mA H
   clear H
   try go_wp2
   replace a := mA (Zad a.out)
   replace HB := mA (Zax HB.out)
   refine Zcd (n := 18) (S := fun w' => w'.cell? ⟨g, 0, none⟩ = some (.int .i64 d) ∧ w'.cell? ⟨g, 1, none⟩ = some (.slice m c.length o)) (ds := []) #[false, false, false, false, false, false, false, false, false, false, false, false, false, false, false, false, false, false] (by kernel_rfl) rfl rfl ⟨bc a 0, bc a 1⟩ (fun hHeld => ?_); refine Zb8 Zav.tab1 Zav.bits1 (fun HT_ HW_ => ?_)
   generalize w3.drew = w12 at a HB hHeld ⊢
   refine Zaq (i := 0) (N := some 5) (Zam HT_.out (by kernel_rfl)) ?_
   refine Za7 (i := 1) (N := some 6) (Za1 HT_.out HW_.out (by kernel_rfl)) hHeld ?_
   refine one_ (i := 2) (N := some 7) #[true, true, true, false, false, false, false, false, false, false, false, false, false, false, false, false, false, false] rfl rfl (Zbk HT_.out (by kernel_rfl)) (by decide) (fun K hK => ?_)
   refine Zb0 Tryd.func59 (by kernel_rfl) rfl #[.int .i64 d, .int .i64 0, .int .i64 8] (by rfl) rfl rfl (by (try simp only [List.map_toArray, List.map_cons, List.map_nil]); first | done | rfl | (simp only [List.length_drop, List.length_take]; rfl)) ?_
   with_reducible refine (Zbu.calls d 0 8 false _ A4.out).mono ?_
   rintro e w' ⟨rfl, ⟨nd, rfl⟩⟩
   refine ⟨_, rfl, ?_⟩
   refine hK.out _ _ ⟨bc a 0, bc a 1⟩ (fun hHeld => ?_)
   clear hK K
   refine putS 7 ?_
   refine Zaq (i := 3) (N := some 8) (Zam HT_.out (by kernel_rfl)) ?_
   refine Zaq (i := 4) (N := some 9) (Zam HT_.out (by kernel_rfl)) ?_
   refine Zcc (i := 5) (N := some 10) (Zam HT_.out (by kernel_rfl)) ?_
   refine Zcc (i := 6) (N := some 11) (Zam HT_.out (by kernel_rfl)) ?_
   refine Zcc (i := 7) (N := some 12) (Zam HT_.out (by kernel_rfl)) ?_
   refine Zcc (i := 8) (N := some 13) (Zam HT_.out (by kernel_rfl)) ?_
   refine Zcc (i := 9) (N := some 14) (Zam HT_.out (by kernel_rfl)) ?_
   refine Zcc (i := 10) (N := some 15) (Zam HT_.out (by kernel_rfl)) ?_
   refine Zaq (i := 11) (N := some 16) (Zam HT_.out (by kernel_rfl)) ?_
   refine Zaq (i := 12) (N := some 17) (Zam HT_.out (by kernel_rfl)) ?_
   refine Zcc (i := 13) (N := some 18) (Zam HT_.out (by kernel_rfl)) ?_
   refine Zcc (i := 14) (N := some 19) (Zam HT_.out (by kernel_rfl)) ?_
   refine Zcc (i := 15) (N := some 20) (Zam HT_.out (by kernel_rfl)) ?_
   refine Zcc (i := 16) (N := some 21) (Zam HT_.out (by kernel_rfl)) ?_
   refine Zaq (i := 17) (N := some 22) (Zam HT_.out (by kernel_rfl)) ?_
   refine Zcx (Zcv HT_.out (by kernel_rfl)) ?_
   try go_wp2
   go_meet
   case rel => exact ⟨_, (true), (eW), H', ⟨by first | omega | exact Nat.le_refl _⟩, ⟨bP a.out⟩, ⟨bW⟩⟩
  subst c5
  rw [if_pos rfl] at H
  replace H := bE H
  obtain ⟨x, ao, H⟩ := H
  have A6 := mA ao
  clear ao
  by_cases c7 : x = d; rotate_left
  ·rw [if_neg c7] at H
   have B : (x == d) = false := beq_eq_false_iff_ne.mpr c7
   have ax : (x != d) = true := bne_iff_ne.mpr c7
   (first | rw [B] | (simp only [Zby, i32_w]; rw [B]) | skip)
   have H' := mA H
   clear H
   try go_wp2
   replace a := mA (Zad a.out)
   replace HB := mA (Zax HB.out)
   refine Zcd (n := 18) (S := fun w' => w'.cell? ⟨g, 0, none⟩ = some (.int .i64 d) ∧ w'.cell? ⟨g, 1, none⟩ = some (.slice m c.length o)) (ds := []) #[false, false, false, false, false, false, false, false, false, false, false, false, false, false, false, false, false, false] (by kernel_rfl) rfl rfl ⟨bc a 0, bc a 1⟩ (fun hHeld => ?_); refine Zb8 Zav.tab1 Zav.bits1 (fun HT_ HW_ => ?_)
   generalize w3.drew = w11 at a HB hHeld ⊢
   refine Zaq (i := 0) (N := some 5) (Zam HT_.out (by kernel_rfl)) ?_
   refine Za7 (i := 1) (N := some 6) (Za1 HT_.out HW_.out (by kernel_rfl)) hHeld ?_
   refine one_ (i := 2) (N := some 7) #[true, true, true, false, false, false, false, false, false, false, false, false, false, false, false, false, false, false] rfl rfl (Zbk HT_.out (by kernel_rfl)) (by decide) (fun K hK => ?_)
   refine Zb0 Tryd.func59 (by kernel_rfl) rfl #[.int .i64 d, .int .i64 0, .int .i64 8] (by rfl) rfl rfl (by (try simp only [List.map_toArray, List.map_cons, List.map_nil]); first | done | rfl | (simp only [List.length_drop, List.length_take]; rfl)) ?_
   with_reducible refine (Zbu.calls d 0 8 true _ A4.out).mono ?_
   rintro e w' ⟨rfl, ⟨nd, rfl⟩⟩
   refine ⟨_, rfl, ?_⟩
   refine hK.out _ _ ⟨bc a 0, bc a 1⟩ (fun hHeld => ?_)
   clear hK K
   refine putS 7 ?_
   refine Zaq (i := 3) (N := some 8) (Zam HT_.out (by kernel_rfl)) ?_
   refine Zaq (i := 4) (N := some 9) (Zam HT_.out (by kernel_rfl)) ?_
   refine Zaq (i := 5) (N := some 10) (Zam HT_.out (by kernel_rfl)) ?_
   refine Zaq (i := 8) (N := some 13) (Zam HT_.out (by kernel_rfl)) ?_
   refine Za7 (i := 6) (N := some 11) (Za1 HT_.out HW_.out (by kernel_rfl)) hHeld ?_
   refine Za7 (i := 9) (N := some 14) (Za1 HT_.out HW_.out (by kernel_rfl)) hHeld ?_
   refine one_ (i := 7) (N := some 12) #[true, true, true, true, true, true, true, true, true, true, false, false, false, false, false, false, false, false] rfl rfl (Zbk HT_.out (by kernel_rfl)) (by decide) (fun K hK => ?_)
   refine Zb0 Tryd.func60 (by kernel_rfl) rfl #[.slice m c.length o] (by rfl) rfl rfl (by (try simp only [List.map_toArray, List.map_cons, List.map_nil]); first | done | rfl | (simp only [List.length_drop, List.length_take]; rfl)) ?_
   with_reducible refine (Zbm.calls _ _ c x _ ?side1 ?side2 A6.out).mono ?_
   (case side1 => exact cP (zE v.out (bW)))
   (case side2 => exact y.out)
   rintro e w' ⟨rfl, ⟨nd, rfl⟩⟩
   refine ⟨_, rfl, ?_⟩
   refine hK.out _ _ ⟨bc a 0, bc a 1⟩ (fun hHeld => ?_)
   clear hK K
   refine putS 12 ?_
   refine Zaq (i := 10) (N := some 15) (Zam HT_.out (by kernel_rfl)) ?_
   refine Zaq (i := 11) (N := some 16) (Zam HT_.out (by kernel_rfl)) ?_
   refine Zaq (i := 12) (N := some 17) (Zam HT_.out (by kernel_rfl)) ?_
   refine Zcc (i := 13) (N := some 18) (Zam HT_.out (by kernel_rfl)) ?_
   refine Zcc (i := 14) (N := some 19) (Zam HT_.out (by kernel_rfl)) ?_
   refine Zcc (i := 15) (N := some 20) (Zam HT_.out (by kernel_rfl)) ?_
   refine Zcc (i := 16) (N := some 21) (Zam HT_.out (by kernel_rfl)) ?_
   refine Zaq (i := 17) (N := some 22) (Zam HT_.out (by kernel_rfl)) ?_
   refine Zcx (Zcv HT_.out (by kernel_rfl)) ?_
   try go_wp2
   go_meet
   case rel => exact ⟨_, (true), (eW), H', ⟨by first | omega | exact Nat.le_refl _⟩, ⟨bP a.out⟩, ⟨bW⟩⟩
  rw [if_pos c7] at H
  have B : (x == d) = true := beq_iff_eq.mpr c7
  have ax : (x != d) = false := bne_eq_false_iff_eq.mpr c7
  clear c7
  (first | rw [B] | (simp only [Zby, i32_w]; rw [B]) | skip)
  replace H := bE H
  obtain ⟨ag, ap, H⟩ := H
  have A8 := mA ap
  clear ap
  have H' := mA H
  clear H
  try go_wp2
  replace a := mA (Zad a.out)
  replace HB := mA (Zax HB.out)
  refine Zcd (n := 18) (S := fun w' => w'.cell? ⟨g, 0, none⟩ = some (.int .i64 d) ∧ w'.cell? ⟨g, 1, none⟩ = some (.slice m c.length o)) (ds := []) #[false, false, false, false, false, false, false, false, false, false, false, false, false, false, false, false, false, false] (by kernel_rfl) rfl rfl ⟨bc a 0, bc a 1⟩ (fun hHeld => ?_); refine Zb8 Zav.tab1 Zav.bits1 (fun HT_ HW_ => ?_)
  generalize w3.drew = w9 at a HB hHeld ⊢
  refine Zaq (i := 0) (N := some 5) (Zam HT_.out (by kernel_rfl)) ?_
  refine Za7 (i := 1) (N := some 6) (Za1 HT_.out HW_.out (by kernel_rfl)) hHeld ?_
  refine one_ (i := 2) (N := some 7) #[true, true, true, false, false, false, false, false, false, false, false, false, false, false, false, false, false, false] rfl rfl (Zbk HT_.out (by kernel_rfl)) (by decide) (fun K hK => ?_)
  refine Zb0 Tryd.func59 (by kernel_rfl) rfl #[.int .i64 d, .int .i64 0, .int .i64 8] (by rfl) rfl rfl (by (try simp only [List.map_toArray, List.map_cons, List.map_nil]); first | done | rfl | (simp only [List.length_drop, List.length_take]; rfl)) ?_
  with_reducible refine (Zbu.calls d 0 8 true _ A4.out).mono ?_
  rintro e w' ⟨rfl, ⟨nd, rfl⟩⟩
  refine ⟨_, rfl, ?_⟩
  refine hK.out _ _ ⟨bc a 0, bc a 1⟩ (fun hHeld => ?_)
  clear hK K
  refine putS 7 ?_
  refine Zaq (i := 3) (N := some 8) (Zam HT_.out (by kernel_rfl)) ?_
  refine Zaq (i := 4) (N := some 9) (Zam HT_.out (by kernel_rfl)) ?_
  refine Zaq (i := 5) (N := some 10) (Zam HT_.out (by kernel_rfl)) ?_
  refine Zaq (i := 8) (N := some 13) (Zam HT_.out (by kernel_rfl)) ?_
  refine Za7 (i := 6) (N := some 11) (Za1 HT_.out HW_.out (by kernel_rfl)) hHeld ?_
  refine Za7 (i := 9) (N := some 14) (Za1 HT_.out HW_.out (by kernel_rfl)) hHeld ?_
  refine one_ (i := 7) (N := some 12) #[true, true, true, true, true, true, true, true, true, true, false, false, false, false, false, false, false, false] rfl rfl (Zbk HT_.out (by kernel_rfl)) (by decide) (fun K hK => ?_)
  refine Zb0 Tryd.func60 (by kernel_rfl) rfl #[.slice m c.length o] (by rfl) rfl rfl (by (try simp only [List.map_toArray, List.map_cons, List.map_nil]); first | done | rfl | (simp only [List.length_drop, List.length_take]; rfl)) ?_
  with_reducible refine (Zbm.calls _ _ c x _ ?side1 ?side2 A6.out).mono ?_
  (case side1 => exact cP (zE v.out (bW)))
  (case side2 => exact y.out)
  rintro e w' ⟨rfl, ⟨nd, rfl⟩⟩
  refine ⟨_, rfl, ?_⟩
  refine hK.out _ _ ⟨bc a 0, bc a 1⟩ (fun hHeld => ?_)
  clear hK K
  refine putS 12 ?_
  refine Zaq (i := 10) (N := some 15) (Zam HT_.out (by kernel_rfl)) ?_
  refine Zaq (i := 11) (N := some 16) (Zam HT_.out (by kernel_rfl)) ?_
  refine Zaq (i := 12) (N := some 17) (Zam HT_.out (by kernel_rfl)) ?_
  refine Zaq (i := 13) (N := some 18) (Zam HT_.out (by kernel_rfl)) ?_
  refine Za7 (i := 14) (N := some 19) (Za1 HT_.out HW_.out (by kernel_rfl)) hHeld ?_
  refine one_ (i := 15) (N := some 20) #[true, true, true, true, true, true, true, true, true, true, true, true, true, true, true, true, false, false] rfl rfl (Zbk HT_.out (by kernel_rfl)) (by decide) (fun K hK => ?_)
  refine Zb0 Tryd.func61 (by kernel_rfl) rfl #[.slice m c.length o] (by rfl) rfl rfl (by (try simp only [List.map_toArray, List.map_cons, List.map_nil]); first | done | rfl | (simp only [List.length_drop, List.length_take]; rfl)) ?_
  with_reducible refine (Zdi.calls _ _ c ag _ ?side1 ?side2 A8.out).mono ?_
  (case side1 => exact cP (zE v.out (bW)))
  (case side2 => exact y.out)
  rintro e aW ⟨rfl, hb⟩
  refine ⟨_, rfl, ?_⟩
  replace a := mA (blkB a.out hb)
  replace HB := mA (Zac (bW) hb)
  (try clear hb)
  (try clear hb2)
  (try clear hk)
  (try clear hi)
  refine hK.out _ _ ⟨bc a 0, bc a 1⟩ (fun hHeld => ?_)
  clear hK K
  refine putS 20 ?_
  refine Zaq (i := 16) (N := some 21) (Zam HT_.out (by kernel_rfl)) ?_
  refine Zaq (i := 17) (N := some 22) (Zam HT_.out (by kernel_rfl)) ?_
  refine Zcx (Zcv HT_.out (by kernel_rfl)) ?_
  try go_wp2
  go_meet
  case rel => exact ⟨_, (!ag), (eW), H', ⟨by first | omega | exact Nat.le_refl _⟩, ⟨bP a.out⟩, ⟨bW⟩⟩
 case rest =>
  clear af
  obtain ⟨kq, z, rfl, HA, aq, a, HB⟩ := hcut
  cases kq with
  | zero => exact absurd HA.out (by simp [Zav.j0])
  | succ ah =>
   have H := HA.out
   clear HA
   simp only [Zav.j0] at H
   by_cases O : z = true
   ·subst O
    rw [if_pos rfl] at H
    obtain rfl := oI H
    go_wp2
    go_ret
    exact ⟨eW, bW⟩
   replace O := Bool.eq_false_iff.mpr O
   subst O
   rw [iF] at H
   replace H := bE H
   obtain ⟨l, ai, H⟩ := H
   have aO := mA ai
   clear ai
   have H' := mA H
   clear H
   have ab : wc.cell? ⟨g, 0, none⟩ = some (.int .i64 d) := bc a 0
   have ac : wc.cell? ⟨g, 1, none⟩ = some (.slice m c.length o) := bc a 1
   have ad := Zab a.out 0
   have ae := Zab a.out 1
   go_wp2_with (first | ((with_reducible refine Zaw (f := 62) rfl ?_); refine Zbq (some 25) Tryd.func62 #[.slice m c.length o] ?_; (with_reducible refine (Za4.calls ah _ _ c l _ ?side1 ?side2 aO.out (tabW HTab.out)).mono ?_); (case side1 => exact cP (zE v.out HB.out)); (case side2 => exact y.out); rintro e aX ⟨aV, rfl, ar, hb⟩; refine ⟨_, rfl, ?_⟩; have P := mA (zN ar (Zah (bW))); replace a := mA (blkB a.out hb); replace HB := mA (Zac (bW) hb); (try clear hb); (try clear hb2); (try clear hk); (try clear hi); (try clear ar); obtain ⟨ay, az, aA⟩ := zJ P.out; subst aA))
   go_loopg [27] ah (fun kq v27 w' => ∃ (b : Int), v27 = .int .i64 b ∧ Zaa (Zav.l0 kq l (l.length : Int) b d c = some r) ∧ Zaa (kq ≤ ah) ∧ Zaa (Kd.R (Kd.int .i64) 2 w' w.heap.size (fun _ => True) (.slice ay l.length az) l) ∧ Zaa (w'.heap[g]? = some (.cells #[.int .i64 d, (.slice m c.length o)] 32 (0, 0))) ∧ Zaa (Below w.heap.size w w'))
   case atStart => exact ⟨(0), (eW), H', ⟨Nat.le_refl _⟩, ⟨rP P.out⟩, ⟨bP a.out⟩, ⟨bW⟩⟩
   case round =>
    clear H' ab ac ad ae
    obtain ⟨b, rfl, HA, au, A, a, HB⟩ := hrel
    cases gk with
    | zero => exact absurd HA.out (by simp [Zav.l0])
    | succ k2 =>
     have H := HA.out
     clear HA
     simp only [Zav.l0] at H
     by_cases I : b < (l.length : Int); rotate_left
     ·rw [if_neg I] at H
      have ak := dF I
      clear I
      obtain rfl := oI H
      go_wp2
      go_ret
      exact ⟨eW, bW⟩
     rw [if_pos I] at H
     have ak := dT I
     clear I
     by_cases T : 0 ≤ b; rotate_left
     ·rw [if_neg T] at H
      exact absurd H (by simp)
     rw [if_pos T] at H
     have aR := dT T
     clear T
     by_cases U : b < (l.length : Int); rotate_left
     ·rw [if_neg U] at H
      exact absurd H (by simp)
     rw [if_pos U] at H
     have aS := dT U
     clear U
     by_cases W : b < (c.length : Int); rotate_left
     ·rw [if_neg W] at H
      exact absurd H (by simp)
     rw [if_pos W] at H
     have aT := dT W
     clear W
     by_cases D : (rd l b) = (rd c b); rotate_left
     ·rw [if_neg D] at H
      have al : ((rd l b) == (rd c b)) = false := beq_eq_false_iff_ne.mpr D
      have am : ((rd l b) != (rd c b)) = true := bne_iff_ne.mpr D
      obtain rfl := oI H
      have p : 0 ≤ (b : Int) := ofD
      have q : b < (l.length : Int) := ofD
      obtain ⟨X, E, J⟩ := zH (zF A.out).2.2 b p q
      cases E
      replace p := eq_true p
      replace q := eq_true q
      have aC : wr.cell? ⟨g, 0, none⟩ = some (.int .i64 d) := bc a 0
      have aD : wr.cell? ⟨g, 1, none⟩ = some (.slice m c.length o) := bc a 1
      have aE := Zab a.out 0
      have aF := Zab a.out 1
      have s : 0 ≤ (b : Int) := ofD
      have u : b < (c.length : Int) := ofD
      obtain ⟨Y, G, j⟩ := zH v.out b s u
      cases G
      replace j := (HB.out.cell (wB w j)).trans j
      replace s := eq_true s
      replace u := eq_true u
      go_wp2
      go_ret
      exact ⟨eW, bW⟩
     rw [if_pos D] at H
     have al : ((rd l b) == (rd c b)) = true := beq_iff_eq.mpr D
     have am : ((rd l b) != (rd c b)) = false := bne_eq_false_iff_eq.mpr D
     clear D
     replace H := bE H
     obtain ⟨aB, aj, H⟩ := H
     have av := mA aj
     clear aj
     by_cases aa : aB = true; rotate_left
     ·replace aa := Bool.eq_false_iff.mpr aa
      subst aa
      rw [iF] at H
      obtain rfl := oI H
      have p : 0 ≤ (b : Int) := ofD
      have q : b < (l.length : Int) := ofD
      obtain ⟨X, E, J⟩ := zH (zF A.out).2.2 b p q
      cases E
      replace p := eq_true p
      replace q := eq_true q
      have aG : wr.cell? ⟨g, 0, none⟩ = some (.int .i64 d) := bc a 0
      have aH : wr.cell? ⟨g, 1, none⟩ = some (.slice m c.length o) := bc a 1
      have aI := Zab a.out 0
      have aJ := Zab a.out 1
      have s : 0 ≤ (b : Int) := ofD
      have u : b < (c.length : Int) := ofD
      obtain ⟨Y, G, j⟩ := zH v.out b s u
      cases G
      replace j := (HB.out.cell (wB w j)).trans j
      replace s := eq_true s
      replace u := eq_true u
      go_wp2_with (first | (go_at_call 44; (with_reducible refine (Zdg.calls (rd l b) b false _ av.out).mono ?_); rintro e w' ⟨rfl, ⟨nd, rfl⟩⟩))
      go_ret
      exact ⟨eW, bW⟩
     subst aa
     rw [if_pos rfl] at H
     have H' := mA H
     clear H
     have p : 0 ≤ (b : Int) := ofD
     have q : b < (l.length : Int) := ofD
     obtain ⟨X, E, J⟩ := zH (zF A.out).2.2 b p q
     cases E
     replace p := eq_true p
     replace q := eq_true q
     have aK : wr.cell? ⟨g, 0, none⟩ = some (.int .i64 d) := bc a 0
     have aL : wr.cell? ⟨g, 1, none⟩ = some (.slice m c.length o) := bc a 1
     have aM := Zab a.out 0
     have aN := Zab a.out 1
     have s : 0 ≤ (b : Int) := ofD
     have u : b < (c.length : Int) := ofD
     obtain ⟨Y, G, j⟩ := zH v.out b s u
     cases G
     replace j := (HB.out.cell (wB w j)).trans j
     replace s := eq_true s
     replace u := eq_true u
     go_wp2_with (first | (go_at_call 44; (with_reducible refine (Zdg.calls (rd l b) b true _ av.out).mono ?_); rintro e w' ⟨rfl, ⟨nd, rfl⟩⟩))
     go_roundg k2
     case measure => have := aq.out; have := au.out; omega
     case rel => exact ⟨(wrap64 (b + 1)), (eW), H', ⟨by have := aq.out; have := au.out; omega⟩, ⟨rP A.out⟩, ⟨bP a.out⟩, ⟨bW⟩⟩
def Zbx.f (l0 : List (List Int)) : Option (Int) := some (l0.length : Int)
theorem Zbx.calls (A0 : Option Addr) (c0 : Nat) (l0 : List (List Int)) (r : Int) (w : World) (a : Kd.C (Kd.slice 2 (Kd.int .i64)) w A0 l0.length l0) (b : l0.length ≤ c0) (h : Zbx.f l0 = some r) :
  Calls Tryd.prog 53 #[.slice A0 l0.length c0] w fun e w' => e = .returned (.int .i64 r) ∧ Zas w w' := by
 have c := mA a
 have d := mA b
 clear a b
 unfold Zbx.f at h
 have H := h
 clear h
 obtain rfl := oI H
 go_enter Tryd.func53, Tryd.ntmps53
 go_wp2
 go_ret
 exact ⟨eW, by repeat (first | exact Zas.refl _ | apply Zas.step)⟩
def Zdt.f (a0 : Int) (a1 : Int) : Option (Bool) := (Zbu.f a1 0 24).bind fun a => (if a = true then ((Zdo.f a1).bind fun b => ((Zbu.f a0 0 (wrap64 (b - 1))).bind fun c => (some c))) else (some false))
theorem Zdt.calls (a0 : Int) (a1 : Int) (r : Bool) (w : World) (h : Zdt.f a0 a1 = some r) :
  Calls Tryd.prog 64 #[.int .i64 a0, .int .i64 a1] w fun e w' => e = .returned (.bool r) ∧ Zas w w' := by
 unfold Zdt.f at h
 have H := h
 clear h
 replace H := bE H
 obtain ⟨g, b, H⟩ := H
 have A3 := mA b
 clear b
 by_cases c4 : g = true; rotate_left
 ·replace c4 := Bool.eq_false_iff.mpr c4
  subst c4
  rw [iF] at H
  obtain rfl := oI H
  go_enter Tryd.func64, Tryd.ntmps64
  go_wp2_with (first | ((with_reducible refine Zaw (f := 59) rfl ?_); refine Zbq (some 6) Tryd.func59 #[.int .i64 a1, .int .i64 0, .int .i64 24] ?_; (with_reducible refine (Zbu.calls a1 0 24 false _ A3.out).mono ?_); rintro e w' ⟨rfl, ⟨nd, rfl⟩⟩; refine ⟨_, rfl, ?_⟩))
  go_ret
  exact ⟨eW, by repeat (first | exact Zas.refl _ | apply Zas.step)⟩
 subst c4
 rw [if_pos rfl] at H
 replace H := bE H
 obtain ⟨a, c, H⟩ := H
 have A5 := mA c
 clear c
 replace H := bE H
 obtain ⟨i, d, H⟩ := H
 have A6 := mA d
 clear d
 obtain rfl := oI H
 go_enter Tryd.func64, Tryd.ntmps64
 go_wp2_with (first | ((with_reducible refine Zaw (f := 59) rfl ?_); refine Zbq (some 6) Tryd.func59 #[.int .i64 a1, .int .i64 0, .int .i64 24] ?_; (with_reducible refine (Zbu.calls a1 0 24 true _ A3.out).mono ?_); rintro e w' ⟨rfl, ⟨nd, rfl⟩⟩; refine ⟨_, rfl, ?_⟩) | (go_at_call 75; (with_reducible refine (Zdo.calls a1 a _ A5.out).mono ?_); rintro e w' ⟨rfl, ⟨nd, rfl⟩⟩) | (go_at_call 59; (with_reducible refine (Zbu.calls a0 0 (wrap64 (a - 1)) i _ A6.out).mono ?_); rintro e w' ⟨rfl, ⟨nd, rfl⟩⟩))
 go_ret
 exact ⟨eW, by repeat (first | exact Zas.refl _ | apply Zas.step)⟩
theorem rdL_get {l : List (List Int)} {k : Nat} (hk : k < l.length) : Zag l (k : Int) = l[k] := by
  unfold Zag; rw [List.getD_eq_getElem?_getD, Int.toNat_natCast, List.getElem?_eq_getElem hk]; rfl
set_option maxHeartbeats 2000000 in
theorem idxL (g : Nat) (lb : Array Value) (eg : ∀ args w, (callFunc g args).run Tryd.prog w = .ok (.enter g args) w) (p : List Int → Bool) (A : Option Addr) (c : Nat) (l : List (List Int)) (w : World) (hr : Kd.C (Kd.slice 2 (Kd.int .i64)) w A l.length l)
    (hp : ∀ (W : World) (x : List Int) (A' : Option Addr) (c' : Nat), x ∈ l → Below w.heap.size w W → Kd.C (Kd.int .i64) W A' x.length x → x.length ≤ c' → Calls Tryd.prog g (#[.slice A' x.length c'] ++ lb) W fun e w' => e = .returned (.bool (p x)) ∧ Below W.heap.size W w') :
    Calls Tryd.prog 77 #[.slice A l.length c, .func (.func g) #[] lb] w fun e w' => e = .returned (.int .i64 (fidx p l)) ∧ Below w.heap.size w w' := by
  have HR := Zaa.mk hr
  have hlen : l.length ≤ 9223372036854775807 := hr.2.1
  clear hr
  have HP := Zaa.mk hp
  clear hp
  go_enter Tryd.func77, Tryd.ntmps77
  go_wp2
  go_loopg [5, 8] l.length (fun gg _ s8 wr => ∃ kk : Nat, kk ≤ l.length ∧ l.length - kk ≤ gg ∧ s8 = .int .i64 kk ∧ Zaa (Below w.heap.size w wr) ∧ Zaa (∀ j (hj : j < kk) (hl : j < l.length), p l[j] = false))
  case atStart => exact ⟨0, Nat.zero_le _, by omega, rfl, ⟨Below.refl _ w⟩, ⟨fun j hj => absurd hj (Nat.not_lt_zero _)⟩⟩
  case round =>
    obtain ⟨kk, hkk, hg, rfl, BW, AS⟩ := hrel
    by_cases hlt : kk < l.length
    · have hltz : (kk : Int) < (l.length : Int) := by omega
      have a : 0 ≤ (kk : Int) := by omega
      obtain ⟨ad, A', c', e, hx, hlc, hin⟩ := Zcu HR.out (kk : Int) a hltz
      cases e
      replace hx := (BW.out.cell (World.block_lt_of_cell? w _ hx)).trans hx
      rw [rdL_get hlt] at hx hlc hin
      rw [Int.toNat_natCast] at hx
      have hcall := HP.out wr l[kk] A' c' (List.getElem_mem hlt) BW.out (Kd.zE hin BW.out) hlc
      clear hlc hin
      cases hq : p l[kk] with
      | true =>
        rw [hq] at hcall
        have HQ := Zaa.mk hq
        clear hq
        generalize hy : l[kk] = y at hx hcall
        clear hy
        go_wp2_with (go_at_fn g; refine hcall.mono ?_; rintro e w' ⟨rfl, hb'⟩)
        go_ret
        exact ⟨by rw [fidx_hit hlt HQ.out (fun j hj => AS.out j hj _)]; rfl, Zac BW.out hb'⟩
      | false =>
        rw [hq] at hcall
        have HQ := Zaa.mk hq
        clear hq
        generalize hy : l[kk] = y at hx hcall
        clear hy
        go_wp2_with (go_at_fn g; refine hcall.mono ?_; rintro e w' ⟨rfl, hb'⟩)
        go_roundg (l.length - (kk + 1))
        case measure => omega
        case rel =>
          refine ⟨kk + 1, by omega, by omega, by go_num, ⟨Zac BW.out hb'⟩, ⟨fun j hj hl => ?_⟩⟩
          by_cases e : j = kk
          · subst e
            exact HQ.out
          · exact AS.out j (by omega) hl
    · have hltz : ¬ (kk : Int) < (l.length : Int) := by omega
      have hke : kk = l.length := by omega
      have HKE := Zaa.mk hke
      clear hke
      go_wp2
      go_ret
      exact ⟨by rw [fidx_miss (fun j hj => AS.out j (by have := HKE.out; omega) hj)]; rfl, BW.out⟩
set_option maxHeartbeats 2000000 in
theorem conL (g : Nat) (lb : Array Value) (eg : ∀ args w, (callFunc g args).run Tryd.prog w = .ok (.enter g args) w) (p : List Int → Bool) (A : Option Addr) (c : Nat) (l : List (List Int)) (w : World) (hr : Kd.C (Kd.slice 2 (Kd.int .i64)) w A l.length l)
    (hp : ∀ (W : World) (x : List Int) (A' : Option Addr) (c' : Nat), x ∈ l → Below w.heap.size w W → Kd.C (Kd.int .i64) W A' x.length x → x.length ≤ c' → Calls Tryd.prog g (#[.slice A' x.length c'] ++ lb) W fun e w' => e = .returned (.bool (p x)) ∧ Below W.heap.size W w') :
    Calls Tryd.prog 65 #[.slice A l.length c, .func (.func g) #[] lb] w fun e w' => e = .returned (.bool (l.any p)) ∧ Below w.heap.size w w' := by
  have HI := Zaa.mk (fun w0 (h0 : w0 = w) => h0 ▸ idxL g lb eg p A c l w hr hp)
  rw [← fidx_nonneg]
  clear hr hp
  go_enter Tryd.func65, Tryd.ntmps65
  go_wp2_with (go_at_call 77; refine (HI.out _ rfl).mono ?_; rintro e w' ⟨rfl, hb'⟩)
  go_ret
  exact ⟨rfl, hb'⟩
def badRow (L n : Int) (x : List Int) : Bool := !(decide ((x.length : Int) = L)) || !(x.all fun t => decide (-1 ≤ t) && decide (t ≤ n - 1))
set_option maxHeartbeats 2000000 in
theorem IsAutomaton_1 (L n : Int) (hn : 0 ≤ n ∧ n ≤ 9223372036854775807) (b1 b2 : Nat) (A : Option Addr) (c : Nat) (x : List Int) (w : World) (hr : Kd.C (Kd.int .i64) w A x.length x) (hc : x.length ≤ c) (h1 : w.cell? ⟨b1, 0, none⟩ = some (.int .i64 L)) (h2 : w.cell? ⟨b2, 0, none⟩ = some (.int .i64 n)) :
    Calls Tryd.prog 66 #[.slice A x.length c, .pointer (some ⟨b1, 0, none⟩), .pointer (some ⟨b2, 0, none⟩)] w fun e w' => e = .returned (.bool (badRow L n x)) ∧ Below w.heap.size w w' := by
  have HR := Zaa.mk hr
  have HC := Zaa.mk hc
  have hlen : x.length ≤ 9223372036854775807 := hr.2.1
  have hf : ∀ r, (x.all fun t => decide (-1 ≤ t) && decide (t ≤ n - 1)) = r → Zdv.f x (-1) (n - 1) = some r := fun r h => by unfold Zdv.f; rw [h]
  have HF := Zaa.mk hf
  have hlf : Zbm.f x = some (x.length : Int) := rfl
  have HLF := Zaa.mk hlf
  clear hr hc hf hlf
  obtain ⟨b, d⟩ := hn
  by_cases hL : (x.length : Int) = L
  · have hb : badRow L n x = !(x.all fun t => decide (-1 ≤ t) && decide (t ≤ n - 1)) := by unfold badRow; simp [hL]
    rw [hb]
    clear hb
    generalize (x.all fun t => decide (-1 ≤ t) && decide (t ≤ n - 1)) = r at HF ⊢
    have hne : ((x.length : Int) != L) = false := by simp [hL]
    have HL := Zaa.mk hL
    clear hL
    have hA := fun W => Zdv.calls A c x (-1) (n - 1) r W
    have hA' := fun W (hb : Below w.heap.size w W) => hA W (Kd.zE HR.out hb) HC.out (HF.out _ rfl)
    clear hA
    have hlA := World.block_lt_of_cell? w _ h1
    have hlB := World.block_lt_of_cell? w _ h2
    have hwr : IntKind.i64.wrap (n - 1) = n - 1 := IntWalk.i64_in _ (by omega)
    go_enter Tryd.func66, Tryd.ntmps66
    go_wp2
    go_region_held3 (fun w' => w'.cell? ⟨b1, 0, none⟩ = some (.int .i64 L) ∧ w'.cell? ⟨b2, 0, none⟩ = some (.int .i64 n)) (go_keep)
      (first | (go_at_call 60; refine Calls.mono (Zbm.calls A c x _ _ (by repeat (first | (with_reducible refine Kd.xG ?_ _) | (with_reducible refine Kd.xF ?_) | exact HR.out)) HC.out HLF.out) ?_; rintro e w' ⟨rfl, ⟨m, rfl⟩⟩) | (go_at_call 67; refine Calls.mono (hA' _ (by repeat (first | apply Zbb | apply Zax | exact Below.refl _ _))) ?_; rintro e w1 ⟨rfl, a⟩; have k1 := (a.cell (p := ⟨b1, 0, none⟩) (by simpa using hlA)).trans (by simpa using h1); have k2 := (a.cell (p := ⟨b2, 0, none⟩) (by simpa using hlB)).trans (by simpa using h2)))
    go_wp2
    go_ret
    exact ⟨by simp, Zac (Zbb (Below.refl _ w) _) a⟩
  · have hb : badRow L n x = true := by unfold badRow; simp [hL]
    rw [hb]
    clear hb
    have hne : ((x.length : Int) != L) = true := by simpa using hL
    have HL := Zaa.mk hL
    clear hL
    go_enter Tryd.func66, Tryd.ntmps66
    go_wp2
    go_quiet ((go_at_call 60; refine Calls.mono (Zbm.calls A c x _ _ (by repeat (first | (with_reducible refine Kd.xG ?_ _) | (with_reducible refine Kd.xF ?_) | exact HR.out)) HC.out HLF.out) ?_; rintro e w' ⟨rfl, ⟨nd, rfl⟩⟩; (try first | exact ⟨rfl, _, World.drewN_drewN _ _ _⟩ | exact ⟨rfl, _, Eq.trans (World.drewN_drewN _ _ _) (congrArg (World.drewN _) (Nat.add_assoc _ _ _))⟩)))
    go_wp2
    go_ret
    exact ⟨rfl, by repeat (first | apply Zbb | apply Zax | exact Below.refl _ _)⟩
def inRB (n lo hi : Int) : Bool := decide (lo ≤ n) && decide (n ≤ hi)
theorem inRange_some (n lo hi : Int) : Zbu.f n lo hi = some (inRB n lo hi) := by
  unfold Zbu.f inRB
  by_cases h : lo ≤ n <;> simp [h]
theorem inRange_any (n lo hi : Int) (w : World) : Calls Tryd.prog 59 #[.int .i64 n, .int .i64 lo, .int .i64 hi] w fun e w' => e = .returned (.bool (inRB n lo hi)) ∧ Zas w w' :=
  Zbu.calls n lo hi _ w (inRange_some n lo hi)
def maskB (F n : Int) : Bool := (Zdt.f F n).getD false
theorem isMask_some (F n : Int) : Zdt.f F n = some (maskB F n) := by
  unfold maskB Zdt.f
  rw [inRange_some]
  simp only [Option.bind_some]
  split
  · rename_i h
    unfold inRB at h
    simp only [Bool.and_eq_true, decide_eq_true_eq] at h
    unfold Zdo.f
    rw [if_pos h.1]
    simp only [Option.bind_some]
    rw [inRange_some]
    rfl
  · rfl
theorem isMask_any (F n : Int) (w : World) : Calls Tryd.prog 64 #[.int .i64 F, .int .i64 n] w fun e w' => e = .returned (.bool (maskB F n)) ∧ Zas w w' :=
  Zdt.calls F n _ w (isMask_some F n)
def isAut (L S F : Int) (N : List (List Int)) : Bool :=
  inRB L 0 8 && (inRB N.length 1 16 && (inRB S 0 ((N.length : Int) - 1) && (maskB F N.length && !(N.any (badRow L N.length)))))
def Zd1.f (a : Int) (b : Int) (c : Int) (d : List (List Int)) : Option Bool := some (isAut a b c d)
set_option maxHeartbeats 4000000 in
theorem Zd1.calls (b : Int) (g : Int) (i : Int) (c : Option Addr) (d : Nat) (a : List (List Int)) (r : Bool) (w : World) (j : Kd.C (Kd.slice 2 (Kd.int .i64)) w c a.length a) (k : a.length ≤ d) (h : Zd1.f b g i a = some r) :
    Calls Tryd.prog 42 #[.agg #[.int .i64 b, .int .i64 g, .int .i64 i, .slice c a.length d]] w fun e w' => e = .returned (.bool r) ∧ Below w.heap.size w w' := by
  have hlen : a.length ≤ 9223372036854775807 := j.2.1
  have HR := mA j
  have HCp := mA k
  clear j k
  have hrr : isAut b g i a = r := Option.some.inj h
  clear h
  unfold isAut at hrr
  have HLF := mA (show Zbx.f a = some (a.length : Int) from rfl)
  have hwr : IntKind.i64.wrap ((a.length : Int) - 1) = (a.length : Int) - 1 := IntWalk.i64_in _ (by omega)
  have HCN := fun W A (hA : Kd.C (Kd.slice 2 (Kd.int .i64)) W A a.length a) (b1 b2 : Nat) (h1 : W.cell? ⟨b1, 0, none⟩ = some (.int .i64 b)) (h2 : W.cell? ⟨b2, 0, none⟩ = some (.int .i64 a.length)) (n : b1 < W.heap.size) (o : b2 < W.heap.size) =>
    conL 66 #[.pointer (some ⟨b1, 0, none⟩), .pointer (some ⟨b2, 0, none⟩)] (enters_of Tryd.func66 (by kernel_rfl) rfl) (badRow b a.length) A d a W hA
      (fun W' x A' c' _ hb hC hc => IsAutomaton_1 b a.length ⟨by omega, by omega⟩ b1 b2 A' c' x W' hC hc ((hb.cell (p := ⟨b1, 0, none⟩) n).trans h1) ((hb.cell (p := ⟨b2, 0, none⟩) o).trans h2))
  generalize q : a.any (badRow b a.length) = q5 at HCN hrr
  clear q
  cases hq1 : inRB b 0 8
  · rw [hq1, Bool.false_and] at hrr
    subst hrr
    clear HCN
    go_enter Tryd.func42, Tryd.ntmps42
    go_wp2_with (first | (go_at_call 53; refine Calls.mono (Zbx.calls c d a _ _ (by repeat (first | (with_reducible refine xG ?_ _) | (with_reducible refine xF ?_) | (with_reducible refine xE ?_ _) | exact HR.out)) HCp.out HLF.out) ?_; rintro e w' ⟨rfl, ⟨nd, rfl⟩⟩) | (go_at_call 59; refine Calls.mono (inRange_any _ _ _ _) ?_; rintro e w' ⟨rfl, ⟨l, rfl⟩⟩) | (go_at_call 64; refine Calls.mono (isMask_any _ _ _) ?_; rintro e w' ⟨rfl, ⟨m, rfl⟩⟩))
    go_ret
    exact ⟨rfl, by repeat (first | apply Zbi | apply Zbb | apply Zax | exact Below.refl _ _)⟩
  rw [hq1, Bool.true_and] at hrr
  cases hq2 : inRB a.length 1 16
  · rw [hq2, Bool.false_and] at hrr
    subst hrr
    clear HCN
    go_enter Tryd.func42, Tryd.ntmps42
    go_wp2_with (first | (go_at_call 53; refine Calls.mono (Zbx.calls c d a _ _ (by repeat (first | (with_reducible refine xG ?_ _) | (with_reducible refine xF ?_) | (with_reducible refine xE ?_ _) | exact HR.out)) HCp.out HLF.out) ?_; rintro e w' ⟨rfl, ⟨nd, rfl⟩⟩) | (go_at_call 59; refine Calls.mono (inRange_any _ _ _ _) ?_; rintro e w' ⟨rfl, ⟨l, rfl⟩⟩) | (go_at_call 64; refine Calls.mono (isMask_any _ _ _) ?_; rintro e w' ⟨rfl, ⟨m, rfl⟩⟩))
    go_ret
    exact ⟨rfl, by repeat (first | apply Zbi | apply Zbb | apply Zax | exact Below.refl _ _)⟩
  rw [hq2, Bool.true_and] at hrr
  cases hq3 : inRB g 0 ((a.length : Int) - 1)
  · rw [hq3, Bool.false_and] at hrr
    subst hrr
    clear HCN
    go_enter Tryd.func42, Tryd.ntmps42
    go_wp2_with (first | (go_at_call 53; refine Calls.mono (Zbx.calls c d a _ _ (by repeat (first | (with_reducible refine xG ?_ _) | (with_reducible refine xF ?_) | (with_reducible refine xE ?_ _) | exact HR.out)) HCp.out HLF.out) ?_; rintro e w' ⟨rfl, ⟨nd, rfl⟩⟩) | (go_at_call 59; refine Calls.mono (inRange_any _ _ _ _) ?_; rintro e w' ⟨rfl, ⟨l, rfl⟩⟩) | (go_at_call 64; refine Calls.mono (isMask_any _ _ _) ?_; rintro e w' ⟨rfl, ⟨m, rfl⟩⟩))
    go_ret
    exact ⟨rfl, by repeat (first | apply Zbi | apply Zbb | apply Zax | exact Below.refl _ _)⟩
  rw [hq3, Bool.true_and] at hrr
  cases hq4 : maskB i a.length
  · rw [hq4, Bool.false_and] at hrr
    subst hrr
    clear HCN
    go_enter Tryd.func42, Tryd.ntmps42
    go_wp2_with (first | (go_at_call 53; refine Calls.mono (Zbx.calls c d a _ _ (by repeat (first | (with_reducible refine xG ?_ _) | (with_reducible refine xF ?_) | (with_reducible refine xE ?_ _) | exact HR.out)) HCp.out HLF.out) ?_; rintro e w' ⟨rfl, ⟨nd, rfl⟩⟩) | (go_at_call 59; refine Calls.mono (inRange_any _ _ _ _) ?_; rintro e w' ⟨rfl, ⟨l, rfl⟩⟩) | (go_at_call 64; refine Calls.mono (isMask_any _ _ _) ?_; rintro e w' ⟨rfl, ⟨m, rfl⟩⟩))
    go_ret
    exact ⟨rfl, by repeat (first | apply Zbi | apply Zbb | apply Zax | exact Below.refl _ _)⟩
  rw [hq4, Bool.true_and] at hrr
  subst hrr
  go_enter Tryd.func42, Tryd.ntmps42
  go_wp2_with (first | (go_at_call 53; refine Calls.mono (Zbx.calls c d a _ _ (by repeat (first | (with_reducible refine xG ?_ _) | (with_reducible refine xF ?_) | (with_reducible refine xE ?_ _) | exact HR.out)) HCp.out HLF.out) ?_; rintro e w' ⟨rfl, ⟨nd, rfl⟩⟩) | (go_at_call 59; refine Calls.mono (inRange_any _ _ _ _) ?_; rintro e w' ⟨rfl, ⟨l, rfl⟩⟩) | (go_at_call 64; refine Calls.mono (isMask_any _ _ _) ?_; rintro e w' ⟨rfl, ⟨m, rfl⟩⟩))
  refine Calls.mono (HCN _ c (by repeat (first | (with_reducible refine xG ?_ _) | (with_reducible refine xF ?_) | (with_reducible refine xE ?_ _) | exact HR.out)) w.heap.size (w.heap.size + 1) (by go_simp) (by go_simp) (by simp; omega) (by simp)) ?_
  rintro e w' ⟨rfl, hb⟩
  go_wp2
  go_ret
  exact ⟨by simp, Zac (by repeat (first | apply Zbi | apply Zbb | apply Zax | exact Below.refl _ _)) hb⟩
end Go.Proofs.YtgindgodfcfgkaaDoor.P
end M0
section M1
namespace Go.Proofs.YtgindgodfcfgkaaDoor.P
open Go.RowKit Go.Proofs.YtgindgodfcfgkaaDoor.Sh Go.Proofs.YtgindgodfcfgkaaDoorW.PrintWords Go.Proofs.YtgindgodfcfgkaaDoorW.PrintLast Go.Proofs.YtgindgodfcfgkaaDoorW.PrintMore
open Kd
attribute [local go_sem] Zcp Zcq Zc0 Zcy Zcf Zcg Zcr Zcs   -- for this text's walks alone
set_option linter.unusedVariables false
set_option linter.unusedSimpArgs false
theorem rdM_get {l : List S34} {k : Nat} (hk : k < l.length) : rd_T34 l (k : Int) = l[k] := by
  unfold rd_T34; rw [List.getD_eq_getElem?_getD, Int.toNat_natCast, List.getElem?_eq_getElem hk]; rfl
set_option maxHeartbeats 4000000 in
theorem idxM (g : Nat) (lb : Array Value) (eg : ∀ args w, (callFunc g args).run Tryd.prog w = .ok (.enter g args) w) (p : S34 → Bool) (A : Option Addr) (c : Nat) (l : List S34) (w : World) (hr : Kd.C k34 w A l.length l)
    (hp : ∀ (W : World) (x : S34) (A' : Option Addr) (c' : Nat), x ∈ l → Below w.heap.size w W → Kd.C (Kd.slice 2 (Kd.int .i64)) W A' x.f3.length x.f3 → x.f3.length ≤ c' → Calls Tryd.prog g (#[.agg #[.int .i64 x.f0, .int .i64 x.f1, .int .i64 x.f2, .slice A' x.f3.length c']] ++ lb) W fun e w' => e = .returned (.bool (p x)) ∧ Below W.heap.size W w') :
    Calls Tryd.prog 63 #[.slice A l.length c, .func (.func g) #[] lb] w fun e w' => e = .returned (.int .i64 (fidx p l)) ∧ Below w.heap.size w w' := by
  have hu := Tryd.underlying34
  have HR := Zaa.mk hr
  have hlen : l.length ≤ 9223372036854775807 := hr.2.1
  clear hr
  have HP := Zaa.mk hp
  clear hp
  go_enter Tryd.func63, Tryd.ntmps63
  go_wp2
  go_loopg [5, 8] l.length (fun gg _ s8 wr => ∃ kk : Nat, kk ≤ l.length ∧ l.length - kk ≤ gg ∧ s8 = .int .i64 kk ∧ Zaa (Below w.heap.size w wr) ∧ Zaa (∀ j (hj : j < kk) (hl : j < l.length), p l[j] = false))
  case atStart => exact ⟨0, Nat.zero_le _, by omega, rfl, ⟨Below.refl _ w⟩, ⟨fun j hj => absurd hj (Nat.not_lt_zero _)⟩⟩
  case round =>
    obtain ⟨kk, hkk, hg, rfl, BW, AS⟩ := hrel
    by_cases hlt : kk < l.length
    · have hltz : (kk : Int) < (l.length : Int) := by omega
      have h : 0 ≤ (kk : Int) := by omega
      obtain ⟨ad, A', c', e, hx, a, b, d, hlc, hin⟩ := at_T34 HR.out (kk : Int) h hltz
      cases e
      replace hx := (BW.out.cell (World.block_lt_of_cell? w _ hx)).trans hx
      replace a := (BW.out.cell (World.block_lt_of_cell? w _ a)).trans a
      replace b := (BW.out.cell (World.block_lt_of_cell? w _ b)).trans b
      replace d := (BW.out.cell (World.block_lt_of_cell? w _ d)).trans d
      rw [rdM_get hlt] at hx a b d hlc hin
      rw [Int.toNat_natCast] at hx a b d
      have hcall := HP.out wr l[kk] A' c' (List.getElem_mem hlt) BW.out (Kd.zE hin BW.out) hlc
      clear hlc hin
      cases hq : p l[kk] with
      | true =>
        rw [hq] at hcall
        have HQ := Zaa.mk hq
        clear hq
        generalize hy : l[kk] = y at hx a b d hcall
        clear hy
        go_wp2_with (go_at_fn g; refine hcall.mono ?_; rintro e w' ⟨rfl, hb'⟩)
        go_ret
        exact ⟨by rw [fidx_hit hlt HQ.out (fun j hj => AS.out j hj _)]; rfl, Zac BW.out hb'⟩
      | false =>
        rw [hq] at hcall
        have HQ := Zaa.mk hq
        clear hq
        generalize hy : l[kk] = y at hx a b d hcall
        clear hy
        go_wp2_with (go_at_fn g; refine hcall.mono ?_; rintro e w' ⟨rfl, hb'⟩)
        go_roundg (l.length - (kk + 1))
        case measure => omega
        case rel =>
          refine ⟨kk + 1, by omega, by omega, by go_num, ⟨Zac BW.out hb'⟩, ⟨fun j hj hl => ?_⟩⟩
          by_cases e : j = kk
          · subst e
            exact HQ.out
          · exact AS.out j (by omega) hl
    · have hltz : ¬ (kk : Int) < (l.length : Int) := by omega
      have hke : kk = l.length := by omega
      have HKE := Zaa.mk hke
      clear hke
      go_wp2
      go_ret
      exact ⟨by rw [fidx_miss (fun j hj => AS.out j (by have := HKE.out; omega) hj)]; rfl, BW.out⟩
set_option maxHeartbeats 2000000 in
theorem conM (g : Nat) (lb : Array Value) (eg : ∀ args w, (callFunc g args).run Tryd.prog w = .ok (.enter g args) w) (p : S34 → Bool) (A : Option Addr) (c : Nat) (l : List S34) (w : World) (hr : Kd.C k34 w A l.length l)
    (hp : ∀ (W : World) (x : S34) (A' : Option Addr) (c' : Nat), x ∈ l → Below w.heap.size w W → Kd.C (Kd.slice 2 (Kd.int .i64)) W A' x.f3.length x.f3 → x.f3.length ≤ c' → Calls Tryd.prog g (#[.agg #[.int .i64 x.f0, .int .i64 x.f1, .int .i64 x.f2, .slice A' x.f3.length c']] ++ lb) W fun e w' => e = .returned (.bool (p x)) ∧ Below W.heap.size W w') :
    Calls Tryd.prog 40 #[.slice A l.length c, .func (.func g) #[] lb] w fun e w' => e = .returned (.bool (l.any p)) ∧ Below w.heap.size w w' := by
  have HI := Zaa.mk (fun w0 (h0 : w0 = w) => h0 ▸ idxM g lb eg p A c l w hr hp)
  rw [← fidx_nonneg]
  clear hr hp
  go_enter Tryd.func40, Tryd.ntmps40
  go_wp2_with (go_at_call 63; refine (HI.out _ rfl).mono ?_; rintro e w' ⟨rfl, hb'⟩)
  go_ret
  exact ⟨rfl, hb'⟩
set_option maxHeartbeats 2000000 in
theorem over_1 (x : S34) (A : Option Addr) (c : Nat) (w : World) (hr : Kd.C (Kd.slice 2 (Kd.int .i64)) w A x.f3.length x.f3) (hc : x.f3.length ≤ c) :
    Calls Tryd.prog 41 #[.agg #[.int .i64 x.f0, .int .i64 x.f1, .int .i64 x.f2, .slice A x.f3.length c]] w fun e w' => e = .returned (.bool (!isAut x.f0 x.f1 x.f2 x.f3)) ∧ Below w.heap.size w w' := by
  have hu := Tryd.underlying34
  have HA := Zaa.mk (fun W (hb : Below w.heap.size w W) => Zd1.calls x.f0 x.f1 x.f2 A c x.f3 _ W (Kd.zE hr hb) hc rfl)
  clear hr hc
  generalize isAut x.f0 x.f1 x.f2 x.f3 = b at HA ⊢
  go_enter Tryd.func41, Tryd.ntmps41
  go_wp2_with (go_at_call 42; refine (HA.out _ (by repeat (first | apply Zbi | apply Zbb | apply Zax | exact Below.refl _ _))).mono ?_; rintro e w' ⟨rfl, hb'⟩)
  go_ret
  exact ⟨rfl, Zac (by repeat (first | apply Zbi | apply Zbb | apply Zax | exact Below.refl _ _)) hb'⟩
set_option maxHeartbeats 2000000 in
theorem over_2 (L : Int) (b1 : Nat) (x : S34) (A : Option Addr) (c : Nat) (w : World) (h1 : w.cell? ⟨b1, 0, none⟩ = some (.int .i64 L)) (a : b1 < w.heap.size) :
    Calls Tryd.prog 43 #[.agg #[.int .i64 x.f0, .int .i64 x.f1, .int .i64 x.f2, .slice A x.f3.length c], .pointer (some ⟨b1, 0, none⟩)] w fun e w' => e = .returned (.bool (x.f0 != L)) ∧ Below w.heap.size w w' := by
  have hu := Tryd.underlying34
  have b := Tryd.underlying32
  have hne : b1 ≠ w.heap.size := by omega
  go_enter Tryd.func43, Tryd.ntmps43
  go_wp2
  go_ret
  exact ⟨rfl, by repeat (first | apply Zbi | apply Zbb | apply Zax | exact Below.refl _ _)⟩
def Zde.f (k : Nat) (a : Int) (c : List Int) (l1 : List (S34)) : Option Int := (Zav.f k a c).bind fun b => some (if b then (if l1.any (fun m => !isAut m.f0 m.f1 m.f2 m.f3) then 1 else if l1.any (fun m => m.f0 != a) then 2 else 0) else 1)
set_option maxHeartbeats 4000000 in
theorem Zde.calls (k : Nat) (c : Int) (i : Option Addr) (j : Nat) (d : List Int) (A1 : Option Addr) (c1 : Nat) (l1 : List (S34)) (r : Int) (w : World) (q : Kd.C (Kd.int .i64) w i d.length d) (s : d.length ≤ j) (t : Kd.C k34 w A1 l1.length l1) (B : l1.length ≤ c1) (h : Zde.f k c d l1 = some r) (hTab : Tab w) :
    Calls Tryd.prog 21 #[.agg #[.int .i64 c, .slice i d.length j], .slice A1 l1.length c1] w fun e w' => e = .returned (.int .i64 r) ∧ Below w.heap.size w w' := by
  have D := Tryd.underlying32
  unfold Zde.f at h
  obtain ⟨b, hb, h1⟩ := Option.bind_eq_some_iff.mp h
  clear h
  have h := Option.some.inj h1
  clear h1
  have HB := mA (Below.refl w.heap.size w)
  have HA := mA (fun W (hw : Below w.heap.size w W) => Zav.calls k c i j d b W (zE q hw) s hb (Tab.below hw hTab))
  have H1 := mA (fun W (hw : Below w.heap.size w W) => conM 41 #[] (enters_of Tryd.func41 (by kernel_rfl) rfl) (fun m => !isAut m.f0 m.f1 m.f2 m.f3) A1 c1 l1 W (zE t hw)
      (fun W' x A' c' _ _ hC hc => over_1 x A' c' W' hC hc))
  have H2 := mA (fun W (hw : Below w.heap.size w W) (b1 : Nat) (h1 : W.cell? ⟨b1, 0, none⟩ = some (.int .i64 c)) (a : b1 < W.heap.size) => conM 43 #[.pointer (some ⟨b1, 0, none⟩)] (enters_of Tryd.func43 (by kernel_rfl) rfl) (fun m => m.f0 != c) A1 c1 l1 W (zE t hw)
      (fun W' x A' c' _ hb' _ _ => over_2 c b1 x A' c' W' ((hb'.cell (p := ⟨b1, 0, none⟩) a).trans h1) (Nat.lt_of_lt_of_le a hb'.size)))
  generalize l1.any (fun m => !isAut m.f0 m.f1 m.f2 m.f3) = q1 at H1 h
  generalize l1.any (fun m => m.f0 != c) = q2 at H2 h
  clear q s t hb hTab
  cases b
  · simp only [Bool.false_eq_true, if_false] at h
    subst h
    clear H1 H2
    go_enter Tryd.func21, Tryd.ntmps21
    go_wp2_with (go_at_call 39; refine (HA.out _ bW).mono ?_; rintro e w1 ⟨rfl, a⟩)
    go_ret
    exact ⟨rfl, Zac bW a⟩
  simp only [if_true] at h
  have v : ∀ W : World, Below w.heap.size w W → Below w.heap.size w (W.alloc (.cells #[.int .i64 c, .slice i d.length j] 32)) := fun W hW => Zbi hW _
  have y : ∀ w1, Below (w.alloc (.cells #[.int .i64 c, .slice i d.length j] 32)).heap.size (w.alloc (.cells #[.int .i64 c, .slice i d.length j] 32)) w1 → w1.cell? ⟨w.heap.size, 0, none⟩ = some (.int .i64 c) := fun w1 hb => (hb.cell (p := ⟨w.heap.size, 0, none⟩) (by simp)).trans (by go_simp)
  have z : ∀ w1, Below (w.alloc (.cells #[.int .i64 c, .slice i d.length j] 32)).heap.size (w.alloc (.cells #[.int .i64 c, .slice i d.length j] 32)) w1 → Zaa (w.heap.size < w1.heap.size) := fun w1 hb => ⟨by have := hb.size; simp at this; omega⟩
  have A0 := mA v
  have K0 := mA y
  have K1 := mA z
  clear v y z
  cases q1; rotate_left
  · simp only [if_true] at h
    subst h
    clear H2
    go_enter Tryd.func21, Tryd.ntmps21
    go_wp2_with (first | (go_at_call 39; refine (HA.out _ (A0.out _ HB.out)).mono ?_; rintro e w1 ⟨rfl, a⟩; have L1 := K1.out _ a; have l := mA (Zac (A0.out _ HB.out) a); have k1 := K0.out _ a; have A := mA a; clear a) | (go_at_call 40; (with_reducible refine (H1.out _ l.out).mono ?_); rintro e w2 ⟨rfl, g⟩; have L2 := mA (Nat.lt_of_lt_of_le L1.out g.size); have k2 := (g.cell (p := ⟨w.heap.size, 0, none⟩) L1.out).trans k1; have n := mA (Zac l.out g); clear g k1))
    go_ret
    exact ⟨rfl, n.out⟩
  simp only [Bool.false_eq_true, if_false] at h
  cases q2; rotate_left
  · simp only [if_true] at h
    subst h
    go_enter Tryd.func21, Tryd.ntmps21
    go_wp2_with (first | (go_at_call 39; refine (HA.out _ (A0.out _ HB.out)).mono ?_; rintro e w1 ⟨rfl, a⟩; have L1 := K1.out _ a; have l := mA (Zac (A0.out _ HB.out) a); have k1 := K0.out _ a; have A := mA a; clear a) | (go_at_call 40; (with_reducible refine (H1.out _ l.out).mono ?_); rintro e w2 ⟨rfl, g⟩; have L2 := mA (Nat.lt_of_lt_of_le L1.out g.size); have k2 := (g.cell (p := ⟨w.heap.size, 0, none⟩) L1.out).trans k1; have n := mA (Zac l.out g); clear g k1) | (go_at_call 40; (with_reducible refine (H2.out _ n.out _ k2 L2.out).mono ?_); rintro e w3 ⟨rfl, o⟩; have u := mA (Zac n.out o); clear o))
    go_ret
    exact ⟨rfl, u.out⟩
  simp only [Bool.false_eq_true, if_false] at h
  subst h
  go_enter Tryd.func21, Tryd.ntmps21
  go_wp2_with (first | (go_at_call 39; refine (HA.out _ (A0.out _ HB.out)).mono ?_; rintro e w1 ⟨rfl, a⟩; have L1 := K1.out _ a; have l := mA (Zac (A0.out _ HB.out) a); have k1 := K0.out _ a; have A := mA a; clear a) | (go_at_call 40; (with_reducible refine (H1.out _ l.out).mono ?_); rintro e w2 ⟨rfl, g⟩; have L2 := mA (Nat.lt_of_lt_of_le L1.out g.size); have k2 := (g.cell (p := ⟨w.heap.size, 0, none⟩) L1.out).trans k1; have n := mA (Zac l.out g); clear g k1) | (go_at_call 40; (with_reducible refine (H2.out _ n.out _ k2 L2.out).mono ?_); rintro e w3 ⟨rfl, o⟩; have u := mA (Zac n.out o); clear o))
  go_ret
  exact ⟨rfl, u.out⟩
def Zbc.l0 : Nat → Int → Int → Int → Int → Int → List (List Int) → Int → Int → List Bool → List (List Int) → Option (Int × Int × List Bool × (List (List Int)))
 | 0, _, _, _, _, _, _, _, _, _, _ => none
 | k + 1, l, j, g, h, b, i, c, d, a, e => if j < l then ((Zdg.f b j).bind fun m => (if a.length < 140737488355328 then (Zbc.l0 k l (wrap64 (j + 1)) g h b i c d (a ++ [m]) e) else (none))) else (some (c, d, a, e))
def Zbc.f (k : Nat) (b : Int) (c : Int) (d : Int) (a : List (List Int)) : Option (Int × Int × List Bool × (List (List Int))) := Zbc.l0 k (a.length : Int) 0 b c d a b c ([] : List Bool) a
def Zbc.T5 : Bool × List (List Nat × List Nat) := (true, [([], []), ([0], [0]), ([], []), ([2], [2]), ([], []), ([3, 4], [3, 4]), ([5], [5]), ([1, 6, 5], [1, 6]), ([0, 1, 2, 3, 4, 5, 6, 7], []), ([8, 7, 7, 0, 1, 2, 3, 4, 5, 6, 7], [7, 8])])
def Zbc.B5 : List Nat := [0, 1, 0, 4, 0, 28, 60, 127, 255, 511]
theorem Zbc.tab5 : rtab .any (opsOf Tryd.f22 5) = Zbc.T5 := by kernel_rfl
theorem Zbc.bits5 : Zck Zbc.T5.2 Zbc.B5 = true := by kernel_rfl
theorem Zbc.calls (k : Nat) (m : Int) (s : Int) (I : Int) (J : Nat → Prop) (z : Option Addr) (A : Nat) (j : List (List Int)) (r1 : Int) (r2 : Int) (r3 : List Bool) (r4 : List (List Int)) (w : World) (aM : Kd.V (Kd.slice 2 (Kd.int .i64)) 22 w w.heap.size (fun k_ => J k_) (.slice z j.length A) j) (h : Zbc.f k m s I j = some (r1, r2, r3, r4)) :
  Calls Tryd.prog 22 #[.agg #[.int .i64 m, .int .i64 s, .int .i64 I, .slice z j.length A]] w fun e w' => ∃ ao aT : Value, e = .returned (.agg #[.int .i64 r1, .int .i64 r2, ao, aT]) ∧ Kd.R Kd.bool 4 w' w.heap.size (fun k_ => (w.heap.size ≤ k_)) ao r3 ∧ Kd.V (Kd.slice 2 (Kd.int .i64)) 22 w' w.heap.size (fun k_ => (J k_ ∨ w.heap.size ≤ k_) ∧ some k_ ≠ (ao : Value).ownBlock) aT r4 ∧ Below w.heap.size w w' := by
 have bF := Tryd.underlying34
 have bG := Tryd.underlying48
 have G := mA (show Kd.V (Kd.slice 2 (Kd.int .i64)) 22 w w.heap.size (fun k_ => (J k_ ∨ w.heap.size ≤ k_)) (.slice z j.length A) j from yN aM (fun k_ hk => .inl hk))
 have HB := mA (Below.refl w.heap.size w)
 unfold Zbc.f at h
 have H := h
 clear h
 have H' := mA H
 clear H
 go_enter Tryd.func22, Tryd.ntmps22
 go_wp2_with (first | ((with_reducible refine Zao (N := 1) rfl ?_); refine boxS (N := 1) (cs := #[.int .i64 m, .int .i64 s, .int .i64 I, .slice z j.length A]) (t := 34) ?_; intro E hg w2 hbox hb; replace G := mA (xD (xT (by (with_reducible repeat (first | apply yK | apply yL | apply yH)); exact G.out) E (Nat.le_of_eq hg.symm)) hb); have b := mA (hbox); have bp := geW (w := w) hg; have bq := geW (w := w) hg; replace HB := mA (Zac (bW) hb); clear hb hbox hg) | ((with_reducible refine Zao (N := 2) rfl ?_); refine boxS (N := 2) (cs := #[.int .i64 0, .int .i64 0, .slice none 0 0, .slice none 0 0]) (t := 48) ?_; intro l hg w3 hbox hb; replace G := mA (xD (xT (by (with_reducible repeat (first | apply yK | apply yL | apply yH)); exact G.out) l (Nat.le_of_eq hg.symm)) hb); have d := mA (hbox); have br := geW (w := w) hg; have bs := geW (w := w) hg; replace HB := mA (Zac (bW) hb); have P := mA (neB hg b); have T := mA (neC hg b); replace b := mA (blkB b.out hb); clear hb hbox hg; have bH := P.out; have bI := T.out; obtain ⟨ap, aq, ar, au⟩ := Zbj b.out; obtain ⟨av, aw, ax, ay⟩ := frz4 b.out) | ((with_reducible refine Zao (N := 3) rfl ?_); refine boxS (N := 3) (cs := #[.int .i64 0, .int .i64 0, .slice none 0 0, .slice none 0 0]) (t := 48) ?_; intro c hg w6 hbox hb; replace G := mA (xD (xT (by (with_reducible repeat (first | apply yK | apply yL | apply yH)); exact G.out) c (Nat.le_of_eq hg.symm)) hb); have a := mA (hbox); have bu := geW (w := w) hg; have bv := geW (w := w) hg; replace HB := mA (Zac (bW) hb); have x := mA (neB hg b); have M := mA (neC hg b); replace b := mA (blkB b.out hb); have y := mA (neB hg d); have O := mA (neC hg d); replace d := mA (blkB d.out hb); clear hb hbox hg; have bJ := M.out; have bK := x.out; have bL := O.out; have bM := y.out; obtain ⟨az, aA, aC, aD⟩ := Zbj a.out; obtain ⟨aE, aG, aH, aI⟩ := frz4 a.out; obtain ⟨ag, ah, ai, aj⟩ := Zbj b.out; obtain ⟨ak, al, am, an⟩ := frz4 b.out))
 go_loopg [15] k (fun kq v15 w' => ∃ (L : Int) (q : List Bool) (u : Value), v15 = .int .i64 L ∧ Zaa (Zbc.l0 kq (j.length : Int) L m s I j m s q j = some (r1, r2, r3, r4)) ∧ Zaa (kq ≤ k) ∧ Zaa (Kd.V (Kd.slice 2 (Kd.int .i64)) 22 w' w.heap.size (fun k_ => (J k_ ∨ w.heap.size ≤ k_) ∧ some k_ ≠ (u : Value).ownBlock ∧ k_ ≠ E ∧ k_ ≠ l ∧ k_ ≠ c) (.slice z j.length A) j) ∧ Zaa (Kd.R Kd.bool 4 w' w.heap.size (fun k_ => (w.heap.size ≤ k_)) u q) ∧ Zaa (Kd.V (Kd.slice 2 (Kd.int .i64)) 22 w' w.heap.size (fun k_ => (J k_ ∨ w.heap.size ≤ k_) ∧ some k_ ≠ (u : Value).ownBlock ∧ k_ ≠ E ∧ k_ ≠ l ∧ k_ ≠ c) (.slice z j.length A) j) ∧ Zaa (w'.heap[E]? = some (.cells #[.int .i64 m, .int .i64 s, .int .i64 I, (.slice z j.length A)] 34 (0, 0))) ∧ Zaa (w'.heap[l]? = some (.cells #[.int .i64 0, .int .i64 0, (.slice none 0 0), (.slice none 0 0)] 48 (0, 0))) ∧ Zaa (w'.heap[c]? = some (.cells #[.int .i64 m, .int .i64 s, u, (.slice z j.length A)] 48 (0, 0))) ∧ Zaa (Below w.heap.size w w'))
 case atStart => exact ⟨(0), (([] : List Bool)), (.slice none 0 0), (eW), H', ⟨Nat.le_refl _⟩, ⟨by (with_reducible repeat (first | apply yK | apply yL | apply yH)); exact yN (yY (p := ⟨c, 3, none⟩) (yY (p := ⟨c, 2, none⟩) (yY (p := ⟨c, 1, none⟩) (yY (p := ⟨c, 0, none⟩) (yN G.out (fun k_ hk => (⟨hk, hk.2⟩ : _ ∧ k_ ≠ c))) (fun _ hk => hk.2) (.int .i64 m)) (fun _ hk => hk.2) (.int .i64 s)) (fun _ hk => hk.2) (.slice none 0 0)) (fun _ hk => hk.2) (.slice z j.length A)) (fun _ hk => ⟨hk.1.1.1.1, ⟨(by simp [Value.ownBlock]), ⟨hk.1.1.1.2, ⟨hk.1.1.2, hk.1.2⟩⟩⟩⟩)⟩, ⟨by first | exact yU _ _ _ _ _ | exact Kd.N_nil _ _ _ _ _ | exact Kd.V_nil _ _ _ _ _ | exact Kd.Q_nil _ _ _ _ _ | exact Kd.S_nil _ _ _ _ _⟩, ⟨by (with_reducible repeat (first | apply yK | apply yL | apply yH)); exact yN (yY (p := ⟨c, 3, none⟩) (yY (p := ⟨c, 2, none⟩) (yY (p := ⟨c, 1, none⟩) (yY (p := ⟨c, 0, none⟩) (yN G.out (fun k_ hk => (⟨hk, hk.2⟩ : _ ∧ k_ ≠ c))) (fun _ hk => hk.2) (.int .i64 m)) (fun _ hk => hk.2) (.int .i64 s)) (fun _ hk => hk.2) (.slice none 0 0)) (fun _ hk => hk.2) (.slice z j.length A)) (fun _ hk => ⟨hk.1.1.1.1, ⟨(by simp [Value.ownBlock]), ⟨hk.1.1.1.2, ⟨hk.1.1.2, hk.1.2⟩⟩⟩⟩)⟩, ⟨by (with_reducible repeat (first | refine Zaj ?_ _ | refine Zad ?_ | refine Zae ?_ _)); refine Za5 ?_ x.out _; (with_reducible repeat (first | refine Zaj ?_ _ | refine Zad ?_ | refine Zae ?_ _)); refine Za5 ?_ x.out _; (with_reducible repeat (first | refine Zaj ?_ _ | refine Zad ?_ | refine Zae ?_ _)); refine Za5 ?_ x.out _; (with_reducible repeat (first | refine Zaj ?_ _ | refine Zad ?_ | refine Zae ?_ _)); refine Za5 ?_ x.out _; exact bP b.out⟩, ⟨by (with_reducible repeat (first | refine Zaj ?_ _ | refine Zad ?_ | refine Zae ?_ _)); refine Za5 ?_ y.out _; (with_reducible repeat (first | refine Zaj ?_ _ | refine Zad ?_ | refine Zae ?_ _)); refine Za5 ?_ y.out _; (with_reducible repeat (first | refine Zaj ?_ _ | refine Zad ?_ | refine Zae ?_ _)); refine Za5 ?_ y.out _; (with_reducible repeat (first | refine Zaj ?_ _ | refine Zad ?_ | refine Zae ?_ _)); refine Za5 ?_ y.out _; exact bP d.out⟩, ⟨by (with_reducible repeat (first | refine Zaj ?_ _ | refine Zad ?_ | refine Zae ?_ _)); refine Za2 (cs := #[.int .i64 m, .int .i64 s, .slice none 0 0, .slice none 0 0]) ?_ 3 _ rfl; (with_reducible repeat (first | refine Zaj ?_ _ | refine Zad ?_ | refine Zae ?_ _)); refine Za2 (cs := #[.int .i64 m, .int .i64 s, .slice none 0 0, .slice none 0 0]) ?_ 2 _ rfl; (with_reducible repeat (first | refine Zaj ?_ _ | refine Zad ?_ | refine Zae ?_ _)); refine Za2 (cs := #[.int .i64 m, .int .i64 0, .slice none 0 0, .slice none 0 0]) ?_ 1 _ rfl; (with_reducible repeat (first | refine Zaj ?_ _ | refine Zad ?_ | refine Zae ?_ _)); refine Za2 (cs := #[.int .i64 0, .int .i64 0, .slice none 0 0, .slice none 0 0]) ?_ 0 _ rfl; exact bP a.out⟩, ⟨bW⟩⟩
 case round =>
  clear H' ag ah ai aj ap aq ar au az aA aC aD ak al am an av aw ax ay aE aG aH aI
  obtain ⟨L, q, u, rfl, HA, aU, D, r, B, b, d, a, HB⟩ := hrel
  cases gk with
  | zero => exact absurd HA.out (by simp [Zbc.l0])
  | succ k1 =>
   have H := HA.out
   clear HA
   simp only [Zbc.l0] at H
   by_cases W : L < (j.length : Int); rotate_left
   ·rw [if_neg W] at H
    have aN := dF W
    clear W
    simp only [Option.some.injEq, Prod.mk.injEq] at H
    obtain ⟨rfl, rfl, rfl, rfl⟩ := H
    have bw := M.out
    have bx := x.out
    have bz := O.out
    have bA := y.out
    have aY : wr.cell? ⟨c, 0, none⟩ = some (.int .i64 m) := bc a 0
    have aZ : wr.cell? ⟨c, 1, none⟩ = some (.int .i64 s) := bc a 1
    have a0 : wr.cell? ⟨c, 2, none⟩ = some (u) := bc a 2
    have a1 : wr.cell? ⟨c, 3, none⟩ = some (.slice z j.length A) := bc a 3
    have a2 := Zab a.out 0
    have a3 := Zab a.out 1
    have a4 := Zab a.out 2
    have a5 := Zab a.out 3
    have bB := T.out
    have bC := P.out
    have a6 : wr.cell? ⟨l, 0, none⟩ = some (.int .i64 0) := bc d 0
    have a7 : wr.cell? ⟨l, 1, none⟩ = some (.int .i64 0) := bc d 1
    have a8 : wr.cell? ⟨l, 2, none⟩ = some (.slice none 0 0) := bc d 2
    have a9 : wr.cell? ⟨l, 3, none⟩ = some (.slice none 0 0) := bc d 3
    have ba := Zab d.out 0
    have bb := Zab d.out 1
    have bd := Zab d.out 2
    have bf := Zab d.out 3
    obtain ⟨X, Y, aX⟩ := zJ r.out
    subst aX
    go_wp2
    refine bodyPost_ret (results_cell_row rfl _ _ l 48 #[.int .i64 m, .int .i64 s, .slice X q.length Y, .slice z j.length A] (0, 0) _ rfl (by (with_reducible repeat (first | refine Zaj ?_ _ | refine Zad ?_ | refine Zae ?_ _)); refine Za2 (cs := #[.int .i64 m, .int .i64 s, .slice X q.length Y, .slice none 0 0]) ?_ 3 _ rfl; (with_reducible repeat (first | refine Zaj ?_ _ | refine Zad ?_ | refine Zae ?_ _)); refine Za2 (cs := #[.int .i64 m, .int .i64 s, .slice none 0 0, .slice none 0 0]) ?_ 2 _ rfl; (with_reducible repeat (first | refine Zaj ?_ _ | refine Zad ?_ | refine Zae ?_ _)); refine Za2 (cs := #[.int .i64 m, .int .i64 0, .slice none 0 0, .slice none 0 0]) ?_ 1 _ rfl; (with_reducible repeat (first | refine Zaj ?_ _ | refine Zad ?_ | refine Zae ?_ _)); refine Za2 (cs := #[.int .i64 0, .int .i64 0, .slice none 0 0, .slice none 0 0]) ?_ 0 _ rfl; exact bP d.out) Tryd.underlying48 rfl (by kernel_rfl)) rfl ?_
    exact ⟨_, _, eW, by (with_reducible repeat (first | apply zC | apply zD | apply zB)); exact zA (zM (p := ⟨l, 3, none⟩) (zM (p := ⟨l, 2, none⟩) (zM (p := ⟨l, 1, none⟩) (zM (p := ⟨l, 0, none⟩) (zV r.out d.out (by decide)) (fun _ hk => hk.2) (.int .i64 m)) (fun _ hk => hk.2) (.int .i64 s)) (fun _ hk => hk.2) (.slice X q.length Y)) (fun _ hk => hk.2) (.slice z j.length A)) (fun _ hk => hk.1), by (with_reducible repeat (first | apply yK | apply yL | apply yH)); exact yN (yY (p := ⟨l, 3, none⟩) (yY (p := ⟨l, 2, none⟩) (yY (p := ⟨l, 1, none⟩) (yY (p := ⟨l, 0, none⟩) (yN B.out (fun k_ hk => (⟨hk, hk.2.2.2.1⟩ : _ ∧ k_ ≠ l))) (fun _ hk => hk.2) (.int .i64 m)) (fun _ hk => hk.2) (.int .i64 s)) (fun _ hk => hk.2) (.slice X q.length Y)) (fun _ hk => hk.2) (.slice z j.length A)) (fun _ hk => ⟨hk.1.1, hk.1.2.1⟩), bW⟩
   rw [if_pos W] at H
   have aN := dT W
   clear W
   replace H := bE H
   obtain ⟨aa, aJ, H⟩ := H
   have bk := mA aJ
   clear aJ
   by_cases ae : q.length < 140737488355328; rotate_left
   ·rw [if_neg ae] at H
    exact absurd H (by simp)
   rw [if_pos ae] at H
   have aQ := mA ae
   clear ae
   obtain ⟨U, ab⟩ : ∃ y_ : List Bool, y_ = (q ++ [aa]) := ⟨_, rfl⟩
   rw [← ab] at H
   have aR := mA ab
   clear ab
   have H' := mA H
   clear H
   try go_wp2
   replace D := mA (yH D.out)
   replace r := mA (zB r.out)
   replace B := mA (yH B.out)
   replace b := mA (Zad b.out)
   replace d := mA (Zad d.out)
   replace a := mA (Zad a.out)
   replace HB := mA (Zax HB.out)
   refine Zcd (n := 10) (S := fun w' => w'.cell? ⟨c, 0, none⟩ = some (.int .i64 m) ∧ w'.cell? ⟨c, 1, none⟩ = some (.int .i64 s) ∧ w'.cell? ⟨c, 2, none⟩ = some (u) ∧ w'.cell? ⟨c, 3, none⟩ = some (.slice z j.length A) ∧ w'.cell? ⟨E, 0, none⟩ = some (.int .i64 m) ∧ w'.cell? ⟨E, 1, none⟩ = some (.int .i64 s) ∧ w'.cell? ⟨E, 2, none⟩ = some (.int .i64 I) ∧ w'.cell? ⟨E, 3, none⟩ = some (.slice z j.length A)) (ds := [9]) #[false, false, false, false, false, false, false, false, false, false] (by kernel_rfl) rfl rfl ⟨bc a 0, bc a 1, bc a 2, bc a 3, bc b 0, bc b 1, bc b 2, bc b 3⟩ (fun hHeld => ?_); refine Zb8 Zbc.tab5 Zbc.bits5 (fun HT_ HW_ => ?_)
   generalize wr.drew = w14 at D r B b d a HB hHeld ⊢
   refine Zaq (i := 0) (N := some 18) (Zam HT_.out (by kernel_rfl)) ?_
   refine Zaq (i := 2) (N := some 20) (Zam HT_.out (by kernel_rfl)) ?_
   refine Zaq (i := 4) (N := some 22) (Zam HT_.out (by kernel_rfl)) ?_
   refine Za7 (i := 1) (N := some 19) (Za1 HT_.out HW_.out (by kernel_rfl)) hHeld ?_
   refine Za7 (i := 3) (N := some 21) (Za1 HT_.out HW_.out (by kernel_rfl)) hHeld ?_
   refine one_ (i := 5) (N := some 23) #[true, true, true, true, true, true, false, false, false, false] rfl rfl (Zbk HT_.out (by kernel_rfl)) (by decide) (fun K hK => ?_)
   refine Zb0 Tryd.func44 (by kernel_rfl) rfl #[.int .i64 I, .int .i64 L] (by rfl) rfl rfl (by (try simp only [List.map_toArray, List.map_cons, List.map_nil]); first | done | rfl | (simp only [List.length_drop, List.length_take]; rfl)) ?_
   with_reducible refine (Zdg.calls I L aa _ bk.out).mono ?_
   rintro e w' ⟨rfl, ⟨nd, rfl⟩⟩
   refine ⟨_, rfl, ?_⟩
   refine hK.out _ _ ⟨bc a 0, bc a 1, bc a 2, bc a 3, bc b 0, bc b 1, bc b 2, bc b 3⟩ (fun hHeld => ?_)
   clear hK K
   refine putS 23 ?_
   refine one_ (i := 6) (N := some 24) #[true, true, true, true, true, true, true, false, false, false] rfl rfl (Zbk HT_.out (by kernel_rfl)) (by decide) (fun K hK => ?_)
   refine Zcn (w1 := ?_) (v := ?_) (by rfl) rfl ?_ ?_
   rotate_left 2
   ·go_simp
    constructor
    ·rfl
    ·rfl
   refine hK.out _ _ ⟨(Zb5 (Zae a.out _) 0).trans rfl, (Zb5 (Zae a.out _) 1).trans rfl, (Zb5 (Zae a.out _) 2).trans rfl, (Zb5 (Zae a.out _) 3).trans rfl, (Zb5 (Zae b.out _) 0).trans rfl, (Zb5 (Zae b.out _) 1).trans rfl, (Zb5 (Zae b.out _) 2).trans rfl, (Zb5 (Zae b.out _) 3).trans rfl⟩ (fun hHeld => ?_)
   clear hK K
   refine putS 24 ?_
   refine one_ (i := 7) (N := some 25) #[true, true, true, true, true, true, true, true, false, false] rfl rfl (Zbk HT_.out (by kernel_rfl)) (by decide) (fun K hK => ?_)
   refine xY Kd.bool (w0 := w) w.heap.size (by rfl) (.tmp 19) (.tmp 24) 46 4 (.bool false) 1 rfl Tryd.underlying46 info4 rfl (by decide) (by omega) u q aa [.bool aa] (fun k_ => (w.heap.size ≤ k_)) (fun _ => False) rfl rfl ?aP (fun _ hk => hk.elim) ?aF ?aO ?aB ?aS ?aL ?_
   (case aP => exact rfl)
   (case aB => exact (bW))
   (case aF => exact (fun k_ hk => (Nat.le_trans (Zah (bW)) hk)))
   (case aO => exact (rP r.out))
   (case aS => exact (Zah (bW)))
   (case aL => have := aQ.out; omega)
   intro bN bl ho hb hg hat
   rw [← aR.out] at ho
   replace D := mA (Kd.V_afterv (ok := (fun k_ => (J k_ ∨ w.heap.size ≤ k_) ∧ k_ ≠ E ∧ k_ ≠ l ∧ k_ ≠ c)) (by (with_reducible repeat (first | apply yK | apply yL | apply yH)); exact yN D.out (fun _ hk => ⟨⟨hk.1, ⟨hk.2.2.1, ⟨hk.2.2.2.1, hk.2.2.2.2⟩⟩⟩, hk.2.1⟩)) hg hat)
   replace B := mA (Kd.V_afterv (ok := (fun k_ => (J k_ ∨ w.heap.size ≤ k_) ∧ k_ ≠ E ∧ k_ ≠ l ∧ k_ ≠ c)) (by (with_reducible repeat (first | apply yK | apply yL | apply yH)); exact yN B.out (fun _ hk => ⟨⟨hk.1, ⟨hk.2.2.1, ⟨hk.2.2.2.1, hk.2.2.2.2⟩⟩⟩, hk.2.1⟩)) hg hat)
   replace b := mA (Zar (g := E) (o := .cells #[.int .i64 m, .int .i64 s, .int .i64 I, .slice z j.length A] 34 (0, 0)) (bP b.out) hg (zL r.out b.out (by decide)))
   replace d := mA (Zar (g := l) (o := .cells #[.int .i64 0, .int .i64 0, .slice none 0 0, .slice none 0 0] 48 (0, 0)) (bP d.out) hg (zL r.out d.out (by decide)))
   replace a := mA (Zar (g := c) (o := .cells #[.int .i64 m, .int .i64 s, u, .slice z j.length A] 48 (0, 0)) (bP a.out) hg (zL r.out a.out (by decide)))
   replace HB := mA (hb)
   have af := mA (ho)
   clear r ho hb hg hat
   obtain ⟨ac, ad, aK⟩ := zJ af.out
   (first | subst aK | (injection aK with aV bm aW; have bn := aV.symm; have bo := aW.symm; clear aV bm aW; subst bn; subst bo))
   refine hK.out _ _ ⟨bc a 0, bc a 1, bc a 2, bc a 3, bc b 0, bc b 1, bc b 2, bc b 3⟩ (fun hHeld => ?_)
   clear hK K
   refine putS 25 ?_
   refine Zaq (i := 8) (N := some 26) (Zam HT_.out (by kernel_rfl)) ?_
   refine last_ (i := 9) (N := none) #[true, true, true, true, true, true, true, true, true, true] rfl rfl (Zbk HT_.out (by kernel_rfl)) (by decide) (fun K hK => ?_)
   have bO : bl.cell? ⟨c, 2, none⟩ = some (u) := bc a 2
   have bD := Zab a.out 2
   have bg := x.out
   have bh := y.out
   have bi := M.out
   have bj := O.out
   refine skip_ (w1 := ?_) (by rfl) rfl ?_ ?_
   rotate_left
   ·go_simp
    rfl
   refine hK.out _ _ ?_
   clear hK K
   refine Zcx (Zcv HT_.out (by kernel_rfl)) ?_
   try go_wp2
   go_roundg k1
   case measure => have := aU.out; omega
   case rel => exact ⟨(wrap64 (L + 1)), (U), (.slice ac U.length ad), (eW), H', ⟨by have := aU.out; omega⟩, ⟨by (with_reducible repeat (first | apply yK | apply yL | apply yH)); exact yN (yY (p := ⟨c, 2, none⟩) (yN D.out (fun k_ hk => (⟨hk, hk.1.2.2.2⟩ : _ ∧ k_ ≠ c))) (fun _ hk => hk.2) (.slice ac U.length ad)) (fun _ hk => ⟨hk.1.1.1, ⟨hk.1.2, ⟨hk.1.1.2.1, ⟨hk.1.1.2.2.1, hk.1.1.2.2.2⟩⟩⟩⟩)⟩, ⟨by (with_reducible repeat (first | apply zC | apply zD | apply zB)); exact zA (zM (p := ⟨c, 2, none⟩) (zV af.out a.out (by decide)) (fun _ hk => hk.2) (.slice ac U.length ad)) (fun _ hk => hk.1)⟩, ⟨by (with_reducible repeat (first | apply yK | apply yL | apply yH)); exact yN (yY (p := ⟨c, 2, none⟩) (yN B.out (fun k_ hk => (⟨hk, hk.1.2.2.2⟩ : _ ∧ k_ ≠ c))) (fun _ hk => hk.2) (.slice ac U.length ad)) (fun _ hk => ⟨hk.1.1.1, ⟨hk.1.2, ⟨hk.1.1.2.1, ⟨hk.1.1.2.2.1, hk.1.1.2.2.2⟩⟩⟩⟩)⟩, ⟨by (with_reducible repeat (first | refine Zaj ?_ _ | refine Zad ?_ | refine Zae ?_ _)); refine Za5 ?_ x.out _; exact bP b.out⟩, ⟨by (with_reducible repeat (first | refine Zaj ?_ _ | refine Zad ?_ | refine Zae ?_ _)); refine Za5 ?_ y.out _; exact bP d.out⟩, ⟨by (with_reducible repeat (first | refine Zaj ?_ _ | refine Zad ?_ | refine Zae ?_ _)); refine Za2 (cs := #[.int .i64 m, .int .i64 s, u, .slice z j.length A]) ?_ 2 _ rfl; exact bP a.out⟩, ⟨bW⟩⟩
def Zci.f (l0 : List Bool) : Option (List Bool) := if l0.length < 140737488355328 then some l0 else none
theorem Zci.calls (A0 : Option Addr) (c0 : Nat) (l0 : List Bool) (r : List Bool) (w : World) (a : Kd.C Kd.bool w A0 l0.length l0) (d : l0.length ≤ c0) (h : Zci.f l0 = some r) :
    Calls Tryd.prog 72 #[.slice A0 l0.length c0] w fun e w' => ∃ i : Value, e = .returned (i) ∧ Kd.R Kd.bool 4 w' w.heap.size (fun _ => True) i r ∧ Below w.heap.size w w' := by
  unfold Zci.f at h
  by_cases c2 : l0.length < 140737488355328; rotate_left
  · rw [if_neg c2] at h
    cases h
  rw [if_pos c2] at h
  have k := mA c2
  clear c2
  obtain rfl := Option.some.inj h
  clear h
  have hq := fun (W : World) => Lib.run_eql_slice_nil (P := Tryd.prog) W 46 4 A0 l0.length c0 0 0 Tryd.underlying46
  have m := mA a
  have q := mA d
  have HB := mA (Below.refl w.heap.size w)
  cases A0 with
  | none =>
    have hl : l0.length = 0 := by
      by_cases hn : 0 < l0.length
      · obtain ⟨_, e, _⟩ := a.2.2 hn
        cases e
      · omega
    have n : l0 = [] := List.eq_nil_of_length_eq_zero hl
    subst n
    clear hl a d
    have o : ∀ W, (binOp .eql 46 (.slice none 0 c0) (.slice none 0 0)).run Tryd.prog W = .ok (.bool true) W := hq
    clear hq
    go_enter Tryd.func72, Tryd.ntmps72
    go_wp2
    go_ret
    exact ⟨_, rfl, yU _ _ _ _ _, Below.refl _ _⟩
  | some ad =>
    clear a d
    have o : ∀ W, (binOp .eql 46 (.slice (some ad) l0.length c0) (.slice none 0 0)).run Tryd.prog W = .ok (.bool false) W := hq
    clear hq
    go_enter Tryd.func72, Tryd.ntmps72
    go_wp2_with (first | ((with_reducible refine Zao (N := 5) rfl ?_); refine yM Kd.bool _ 4 ?hg (N := 5) ?hd (xs := ([] : List Bool)) (inner := []) (ok := fun _ => True) (okp := fun _ => True) ?hr ?hp (fun _ hk => hk) trivial (Below.refl _ _) (Nat.le_refl _) (by simp) ?_; (case hd => rfl); (case hg => rfl); (case hr => first | (go_simp; done) | (go_simp; rfl)); (case hp => exact (Reps.none _ _)); intro l w3 j hb hg_ hnew_; clear hg_ hnew_; have c := mA (zN j (Zah (by repeat (first | (with_reducible first | exact HB.out | apply Zbi | apply Zbb | apply Zax) | exact HB.out)))); replace HB := mA (Zac (by repeat (first | (with_reducible first | exact HB.out | apply Zbi | apply Zbb | apply Zax) | exact HB.out)) hb); clear hb j) | ((with_reducible refine Zb2 (b := .append) (xs := #[.tmp 5, .tmp 6]) rfl ?_); at_builtin; refine xV Kd.bool (w0 := w) w.heap.size rfl (.tmp 5) (.tmp 6) 46 4 (.bool false) 1 rfl Tryd.underlying46 info4 rfl (by decide) (by omega) l [] l0 _ _ _ (fun _ => True) (fun _ => False) rfl rfl ?aO ?aR (fun _ _ h => h) (fun _ h => h.elim) ?aF ?aB ?aS ?aL ?_; (case aR => repeat (first | exact (zE m.out HB.out) | (with_reducible refine xE ?_ _) | (with_reducible refine xG ?_ _) | (with_reducible refine xF ?_))); (case aB => exact (by repeat (first | (with_reducible first | exact HB.out | apply Zbi | apply Zbb | apply Zax) | exact HB.out))); (case aF => exact (fun _ _ => trivial)); (case aO => exact (by (with_reducible repeat (first | apply zC | apply zD | apply zB)); exact c.out)); (case aS => exact (Zah (by repeat (first | (with_reducible first | exact HB.out | apply Zbi | apply Zbb | apply Zax) | exact HB.out)))); (case aL => have := k.out; simp only [List.length_nil]; omega); intro p w5 ho hb hg hat; rw [List.nil_append] at ho; replace HB := mA (hb); have g := mA (ho); clear c ho hb hg hat))
    go_ret
    exact ⟨_, rfl, by (with_reducible repeat (first | apply zC | apply zD | apply zB)); exact g.out, by repeat (first | (with_reducible first | exact HB.out | apply Zbi | apply Zbb | apply Zax) | exact HB.out)⟩
end Go.Proofs.YtgindgodfcfgkaaDoor.P
end M1
