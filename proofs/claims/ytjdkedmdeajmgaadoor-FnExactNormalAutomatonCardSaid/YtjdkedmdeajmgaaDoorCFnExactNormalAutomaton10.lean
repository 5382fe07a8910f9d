import Derived.Test.YtjdkedmdeajmgaaDoorCFnExactNormalAutomaton9
section M0
namespace Go.Proofs.YtjdkedmdeajmgaaDoor.P
open Go.RowKit Go.Proofs.YtjdkedmdeajmgaaDoor.Sh Go.Proofs.YtjdkedmdeajmgaaDoorW.PrintWords Go.Proofs.YtjdkedmdeajmgaaDoorW.PrintLast Go.Proofs.YtjdkedmdeajmgaaDoorW.PrintMore
open Kd
attribute [local go_sem] Zcf Zch Zcv Zcu Zb6 Zb7 Zcg Zce   -- for this text's walks alone
set_option linter.unusedVariables false
set_option linter.unusedSimpArgs false
mutual
def Zay.j0 : Nat → Bool → Int → List Int → Option (Bool)
 | 0, _, _, _ => none
 | k + 1, d, b, a => if d = true then (some false) else ((Za2.f k a).bind fun c => (Zay.l0 k c (c.length : Int) 0 b a))
def Zay.l0 : Nat → List Int → Int → Int → Int → List Int → Option (Bool)
 | 0, _, _, _, _, _ => none
 | k + 1, c, e, a, d, b => if a < e then (if 0 ≤ a then (if a < (c.length : Int) then (if a < (b.length : Int) then (if (rd c a) = (rd b a) then ((impl_has.f (rd c a) a).bind fun g => (if g = true then (Zay.l0 k c e (wrap64 (a + 1)) d b) else (some false))) else (some false)) else (none)) else (none)) else (none)) else (some true)
end
def Zay.f (k : Nat) (a : Int) (b : List Int) : Option (Bool) := (Zcn.f a 0 8).bind fun c => (if c = true then ((Zbw.f b).bind fun d => (if d = a then ((Zdc.f b).bind fun e => (Zay.j0 k (!e) a b)) else (Zay.j0 k true a b))) else (Zay.j0 k true a b))
def Zay.T1 : Bool × List (List Nat × List Nat) := (true, [([], []), ([0], [0]), ([1], [1]), ([2], [2]), ([3, 2], [3]), ([4], [4]), ([5, 4], [4, 5]), ([6, 4, 4], [4, 6]), ([4], [4]), ([8, 4], [4, 8]), ([7, 9, 4], [4, 7, 9]), ([4, 10], [4, 10]), ([11, 7], [11]), ([12], [12]), ([13, 12], [12, 13]), ([14, 12, 12], [12, 14]), ([15, 12], [12, 15]), ([12, 16], [12, 16])])
def Zay.B1 : List Nat := [0, 1, 3, 7, 15, 31, 63, 127, 31, 287, 1023, 2047, 4095, 8191, 16383, 32767, 65535, 131071]
theorem Zay.tab1 : rtab .any (opsOf Tryd.f59 1) = Zay.T1 := by kernel_rfl
theorem Zay.bits1 : Zcb Zay.T1.2 Zay.B1 = true := by kernel_rfl
set_option maxHeartbeats 8000000 in
set_option maxRecDepth 100000 in
theorem Zay.calls (k : Nat) (d : Int) (l : Option Addr) (m : Nat) (c : List Int) (r : Bool) (w : World) (L : Kd.C (Kd.int .i64) w l c.length c) (M : c.length ≤ m) (h : Zay.f k d c = some r) (hTab : Tab w) :
  Calls Tryd.prog 59 #[.agg #[.int .i64 d, .slice l c.length m]] w fun e w' => e = .returned (.bool r) ∧ Below w.heap.size w w' := by
 have HTab := mA hTab
 clear hTab
 have aM := Tryd.underlying30
 have v := mA L
 have y := mA M
 clear L M
 have HB := mA (Below.refl w.heap.size w)
 unfold Zay.f at h
 have H := h
 clear h
 have ac := mA H
 clear H
 go_enter Tryd.func59, Tryd.ntmps59
 go_upto_region 1 with (first | ((with_reducible refine Zat (N := 1) rfl ?_); refine boxS (N := 1) (cs := #[.int .i64 d, .slice l c.length m]) (t := 30) ?_; intro g hg w3 hbox hb; have a := mA (hbox); have aH := geW (w := w) hg; have aI := geW (w := w) hg; replace HB := mA (Zaf (bW) hb); clear hb hbox hg))
 (try simp only [Act.put, List.setIfInBounds_toArray, List.set_cons_zero, List.set_cons_succ])
 go_cut [22] (fun v22 wc => ∃ (kq : Nat) (z : Bool), v22 = .bool z ∧ Zac (Zay.j0 kq z d c = some r) ∧ Zac (kq ≤ k) ∧ Zac (wc.heap[g]? = some (.cells #[.int .i64 d, (.slice l c.length m)] 30 (0, 0))) ∧ Zac (Below w.heap.size w wc))
 case first =>
  have H := ac.out
  clear ac
  obtain ⟨am, A4, H⟩ := bA H
  by_cases c5 : am = true; rotate_left
  ·replace c5 := Bool.eq_false_iff.mpr c5
   subst c5
   rw [iF] at H
   have H' := mA H
   clear H
   try go_wp2
   replace a := mA (Zaa a.out)
   replace HB := mA (Za1 HB.out)
   refine Zck (n := 18) (S := fun w' => w'.cell? ⟨g, 0, none⟩ = some (.int .i64 d) ∧ w'.cell? ⟨g, 1, none⟩ = some (.slice l c.length m)) (ds := []) #[false, false, false, false, false, false, false, false, false, false, false, false, false, false, false, false, false, false] (by kernel_rfl) rfl rfl ⟨bc a 0, bc a 1⟩ (fun hHeld => ?_); refine Zb5 Zay.tab1 Zay.bits1 (fun HT_ HW_ => ?_)
   generalize w3.drew = w12 at a HB hHeld ⊢
   refine Zas (i := 0) (N := some 5) (Zap HT_.out (by kernel_rfl)) ?_
   refine Zbg (i := 1) (N := some 6) (Za0 HT_.out HW_.out (by kernel_rfl)) hHeld ?_
   refine one_ (i := 2) (N := some 7) #[true, true, true, false, false, false, false, false, false, false, false, false, false, false, false, false, false, false] rfl rfl (Zbe HT_.out (by kernel_rfl)) (by decide) (fun K hK => ?_)
   refine goes_ Tryd.func82 (by kernel_rfl) rfl #[.int .i64 d, .int .i64 0, .int .i64 8] (by rfl) rfl rfl (by (try simp only [List.map_toArray, List.map_cons, List.map_nil]); first | done | rfl | (simp only [List.length_drop, List.length_take]; rfl)) ?_
   with_reducible refine (Zcn.calls d 0 8 false _ A4.out).mono ?_
   rintro e w' ⟨rfl, ⟨nd, rfl⟩⟩
   refine ⟨_, rfl, ?_⟩
   refine hK.out _ _ ⟨bc a 0, bc a 1⟩ (fun hHeld => ?_)
   clear hK K
   refine putS 7 ?_
   refine Zas (i := 3) (N := some 8) (Zap HT_.out (by kernel_rfl)) ?_
   refine Zas (i := 4) (N := some 9) (Zap HT_.out (by kernel_rfl)) ?_
   refine pureU (i := 5) (N := some 10) (Zap HT_.out (by kernel_rfl)) ?_
   refine pureU (i := 6) (N := some 11) (Zap HT_.out (by kernel_rfl)) ?_
   refine pureU (i := 7) (N := some 12) (Zap HT_.out (by kernel_rfl)) ?_
   refine pureU (i := 8) (N := some 13) (Zap HT_.out (by kernel_rfl)) ?_
   refine pureU (i := 9) (N := some 14) (Zap HT_.out (by kernel_rfl)) ?_
   refine pureU (i := 10) (N := some 15) (Zap HT_.out (by kernel_rfl)) ?_
   refine Zas (i := 11) (N := some 16) (Zap HT_.out (by kernel_rfl)) ?_
   refine Zas (i := 12) (N := some 17) (Zap HT_.out (by kernel_rfl)) ?_
   refine pureU (i := 13) (N := some 18) (Zap HT_.out (by kernel_rfl)) ?_
   refine pureU (i := 14) (N := some 19) (Zap HT_.out (by kernel_rfl)) ?_
   refine pureU (i := 15) (N := some 20) (Zap HT_.out (by kernel_rfl)) ?_
   refine pureU (i := 16) (N := some 21) (Zap HT_.out (by kernel_rfl)) ?_
   refine Zas (i := 17) (N := some 22) (Zap HT_.out (by kernel_rfl)) ?_
   refine done_ (Zcs HT_.out (by kernel_rfl)) ?_
   try go_wp2
   go_meet
   case rel => exact ⟨_, (true), (eW), H', ⟨by first | omega | exact Nat.le_refl _⟩, ⟨bP a.out⟩, ⟨bW⟩⟩
  subst c5
  rw [if_pos rfl] at H
  obtain ⟨x, A6, H⟩ := bA H
  by_cases c7 : x = d; rotate_left
  ·rw [if_neg c7] at H
   have B : (x == d) = false := beq_eq_false_iff_ne.mpr c7
   have an : (x != d) = true := bne_iff_ne.mpr c7
   (first | rw [B] | (simp only [Zcq, i32_w]; rw [B]) | skip)
   have H' := mA H
   clear H
   try go_wp2
   replace a := mA (Zaa a.out)
   replace HB := mA (Za1 HB.out)
   refine Zck (n := 18) (S := fun w' => w'.cell? ⟨g, 0, none⟩ = some (.int .i64 d) ∧ w'.cell? ⟨g, 1, none⟩ = some (.slice l c.length m)) (ds := []) #[false, false, false, false, false, false, false, false, false, false, false, false, false, false, false, false, false, false] (by kernel_rfl) rfl rfl ⟨bc a 0, bc a 1⟩ (fun hHeld => ?_); refine Zb5 Zay.tab1 Zay.bits1 (fun HT_ HW_ => ?_)
   generalize w3.drew = w11 at a HB hHeld ⊢
   refine Zas (i := 0) (N := some 5) (Zap HT_.out (by kernel_rfl)) ?_
   refine Zbg (i := 1) (N := some 6) (Za0 HT_.out HW_.out (by kernel_rfl)) hHeld ?_
   refine one_ (i := 2) (N := some 7) #[true, true, true, false, false, false, false, false, false, false, false, false, false, false, false, false, false, false] rfl rfl (Zbe HT_.out (by kernel_rfl)) (by decide) (fun K hK => ?_)
   refine goes_ Tryd.func82 (by kernel_rfl) rfl #[.int .i64 d, .int .i64 0, .int .i64 8] (by rfl) rfl rfl (by (try simp only [List.map_toArray, List.map_cons, List.map_nil]); first | done | rfl | (simp only [List.length_drop, List.length_take]; rfl)) ?_
   with_reducible refine (Zcn.calls d 0 8 true _ A4.out).mono ?_
   rintro e w' ⟨rfl, ⟨nd, rfl⟩⟩
   refine ⟨_, rfl, ?_⟩
   refine hK.out _ _ ⟨bc a 0, bc a 1⟩ (fun hHeld => ?_)
   clear hK K
   refine putS 7 ?_
   refine Zas (i := 3) (N := some 8) (Zap HT_.out (by kernel_rfl)) ?_
   refine Zas (i := 4) (N := some 9) (Zap HT_.out (by kernel_rfl)) ?_
   refine Zas (i := 5) (N := some 10) (Zap HT_.out (by kernel_rfl)) ?_
   refine Zas (i := 8) (N := some 13) (Zap HT_.out (by kernel_rfl)) ?_
   refine Zbg (i := 6) (N := some 11) (Za0 HT_.out HW_.out (by kernel_rfl)) hHeld ?_
   refine Zbg (i := 9) (N := some 14) (Za0 HT_.out HW_.out (by kernel_rfl)) hHeld ?_
   refine one_ (i := 7) (N := some 12) #[true, true, true, true, true, true, true, true, true, true, false, false, false, false, false, false, false, false] rfl rfl (Zbe HT_.out (by kernel_rfl)) (by decide) (fun K hK => ?_)
   refine goes_ Tryd.func115 (by kernel_rfl) rfl #[.slice l c.length m] (by rfl) rfl rfl (by (try simp only [List.map_toArray, List.map_cons, List.map_nil]); first | done | rfl | (simp only [List.length_drop, List.length_take]; rfl)) ?_
   with_reducible refine (Zbw.calls _ _ c x _ ?side1 ?side2 A6.out).mono ?_
   (case side1 => exact cP (zQ v.out (bW)))
   (case side2 => exact y.out)
   rintro e w' ⟨rfl, ⟨nd, rfl⟩⟩
   refine ⟨_, rfl, ?_⟩
   refine hK.out _ _ ⟨bc a 0, bc a 1⟩ (fun hHeld => ?_)
   clear hK K
   refine putS 12 ?_
   refine Zas (i := 10) (N := some 15) (Zap HT_.out (by kernel_rfl)) ?_
   refine Zas (i := 11) (N := some 16) (Zap HT_.out (by kernel_rfl)) ?_
   refine Zas (i := 12) (N := some 17) (Zap HT_.out (by kernel_rfl)) ?_
   refine pureU (i := 13) (N := some 18) (Zap HT_.out (by kernel_rfl)) ?_
   refine pureU (i := 14) (N := some 19) (Zap HT_.out (by kernel_rfl)) ?_
   refine pureU (i := 15) (N := some 20) (Zap HT_.out (by kernel_rfl)) ?_
   refine pureU (i := 16) (N := some 21) (Zap HT_.out (by kernel_rfl)) ?_
   refine Zas (i := 17) (N := some 22) (Zap HT_.out (by kernel_rfl)) ?_
   refine done_ (Zcs HT_.out (by kernel_rfl)) ?_
   try go_wp2
   go_meet
   case rel => exact ⟨_, (true), (eW), H', ⟨by first | omega | exact Nat.le_refl _⟩, ⟨bP a.out⟩, ⟨bW⟩⟩
  rw [if_pos c7] at H
  have B : (x == d) = true := beq_iff_eq.mpr c7
  have an : (x != d) = false := bne_eq_false_iff_eq.mpr c7
  clear c7
  (first | rw [B] | (simp only [Zcq, i32_w]; rw [B]) | skip)
  obtain ⟨ad, A8, H⟩ := bA H
  have H' := mA H
  clear H
  try go_wp2
  replace a := mA (Zaa a.out)
  replace HB := mA (Za1 HB.out)
  refine Zck (n := 18) (S := fun w' => w'.cell? ⟨g, 0, none⟩ = some (.int .i64 d) ∧ w'.cell? ⟨g, 1, none⟩ = some (.slice l c.length m)) (ds := []) #[false, false, false, false, false, false, false, false, false, false, false, false, false, false, false, false, false, false] (by kernel_rfl) rfl rfl ⟨bc a 0, bc a 1⟩ (fun hHeld => ?_); refine Zb5 Zay.tab1 Zay.bits1 (fun HT_ HW_ => ?_)
  generalize w3.drew = w9 at a HB hHeld ⊢
  refine Zas (i := 0) (N := some 5) (Zap HT_.out (by kernel_rfl)) ?_
  refine Zbg (i := 1) (N := some 6) (Za0 HT_.out HW_.out (by kernel_rfl)) hHeld ?_
  refine one_ (i := 2) (N := some 7) #[true, true, true, false, false, false, false, false, false, false, false, false, false, false, false, false, false, false] rfl rfl (Zbe HT_.out (by kernel_rfl)) (by decide) (fun K hK => ?_)
  refine goes_ Tryd.func82 (by kernel_rfl) rfl #[.int .i64 d, .int .i64 0, .int .i64 8] (by rfl) rfl rfl (by (try simp only [List.map_toArray, List.map_cons, List.map_nil]); first | done | rfl | (simp only [List.length_drop, List.length_take]; rfl)) ?_
  with_reducible refine (Zcn.calls d 0 8 true _ A4.out).mono ?_
  rintro e w' ⟨rfl, ⟨nd, rfl⟩⟩
  refine ⟨_, rfl, ?_⟩
  refine hK.out _ _ ⟨bc a 0, bc a 1⟩ (fun hHeld => ?_)
  clear hK K
  refine putS 7 ?_
  refine Zas (i := 3) (N := some 8) (Zap HT_.out (by kernel_rfl)) ?_
  refine Zas (i := 4) (N := some 9) (Zap HT_.out (by kernel_rfl)) ?_
  refine Zas (i := 5) (N := some 10) (Zap HT_.out (by kernel_rfl)) ?_
  refine Zas (i := 8) (N := some 13) (Zap HT_.out (by kernel_rfl)) ?_
  refine Zbg (i := 6) (N := some 11) (Za0 HT_.out HW_.out (by kernel_rfl)) hHeld ?_
  refine Zbg (i := 9) (N := some 14) (Za0 HT_.out HW_.out (by kernel_rfl)) hHeld ?_
  refine one_ (i := 7) (N := some 12) #[true, true, true, true, true, true, true, true, true, true, false, false, false, false, false, false, false, false] rfl rfl (Zbe HT_.out (by kernel_rfl)) (by decide) (fun K hK => ?_)
  refine goes_ Tryd.func115 (by kernel_rfl) rfl #[.slice l c.length m] (by rfl) rfl rfl (by (try simp only [List.map_toArray, List.map_cons, List.map_nil]); first | done | rfl | (simp only [List.length_drop, List.length_take]; rfl)) ?_
  with_reducible refine (Zbw.calls _ _ c x _ ?side1 ?side2 A6.out).mono ?_
  (case side1 => exact cP (zQ v.out (bW)))
  (case side2 => exact y.out)
  rintro e w' ⟨rfl, ⟨nd, rfl⟩⟩
  refine ⟨_, rfl, ?_⟩
  refine hK.out _ _ ⟨bc a 0, bc a 1⟩ (fun hHeld => ?_)
  clear hK K
  refine putS 12 ?_
  refine Zas (i := 10) (N := some 15) (Zap HT_.out (by kernel_rfl)) ?_
  refine Zas (i := 11) (N := some 16) (Zap HT_.out (by kernel_rfl)) ?_
  refine Zas (i := 12) (N := some 17) (Zap HT_.out (by kernel_rfl)) ?_
  refine Zas (i := 13) (N := some 18) (Zap HT_.out (by kernel_rfl)) ?_
  refine Zbg (i := 14) (N := some 19) (Za0 HT_.out HW_.out (by kernel_rfl)) hHeld ?_
  refine one_ (i := 15) (N := some 20) #[true, true, true, true, true, true, true, true, true, true, true, true, true, true, true, true, false, false] rfl rfl (Zbe HT_.out (by kernel_rfl)) (by decide) (fun K hK => ?_)
  refine goes_ Tryd.func116 (by kernel_rfl) rfl #[.slice l c.length m] (by rfl) rfl rfl (by (try simp only [List.map_toArray, List.map_cons, List.map_nil]); first | done | rfl | (simp only [List.length_drop, List.length_take]; rfl)) ?_
  with_reducible refine (Zdc.calls _ _ c ad _ ?side1 ?side2 A8.out).mono ?_
  (case side1 => exact cP (zQ v.out (bW)))
  (case side2 => exact y.out)
  rintro e aO ⟨rfl, hb⟩
  refine ⟨_, rfl, ?_⟩
  replace a := mA (blkB a.out hb)
  replace HB := mA (Zaf (bW) hb)
  (try clear hb)
  (try clear hb2)
  (try clear hk)
  (try clear hi)
  refine hK.out _ _ ⟨bc a 0, bc a 1⟩ (fun hHeld => ?_)
  clear hK K
  refine putS 20 ?_
  refine Zas (i := 16) (N := some 21) (Zap HT_.out (by kernel_rfl)) ?_
  refine Zas (i := 17) (N := some 22) (Zap HT_.out (by kernel_rfl)) ?_
  refine done_ (Zcs HT_.out (by kernel_rfl)) ?_
  try go_wp2
  go_meet
  case rel => exact ⟨_, (!ad), (eW), H', ⟨by first | omega | exact Nat.le_refl _⟩, ⟨bP a.out⟩, ⟨bW⟩⟩
 case rest =>
  clear ac
  obtain ⟨kq, z, rfl, HA, ai, a, HB⟩ := hcut
  cases kq with
  | zero => exact absurd HA.out (by simp [Zay.j0])
  | succ ae =>
   have H := HA.out
   clear HA
   simp only [Zay.j0] at H
   by_cases O : z = true
   ·subst O
    rw [if_pos rfl] at H
    obtain rfl := oI H
    go_wp2
    go_ret
    exact ⟨eW, bW⟩
   replace O := Bool.eq_false_iff.mpr O
   subst O
   rw [iF] at H
   obtain ⟨o, aG, H⟩ := bA H
   have H' := mA H
   clear H
   have X : wc.cell? ⟨g, 0, none⟩ = some (.int .i64 d) := bc a 0
   have Y : wc.cell? ⟨g, 1, none⟩ = some (.slice l c.length m) := bc a 1
   have aa := Zae a.out 0
   have ab := Zae a.out 1
   go_wp2_with (first | ((with_reducible refine Zax (f := 117) rfl ?_); refine Zbi (some 25) Tryd.func117 #[.slice l c.length m] ?_; (with_reducible refine (Za2.calls ae _ _ c o _ ?side1 ?side2 aG.out (tabW HTab.out)).mono ?_); (case side1 => exact cP (zQ v.out HB.out)); (case side2 => exact y.out); rintro e aP ⟨aN, rfl, aj, hb⟩; refine ⟨_, rfl, ?_⟩; have P := mA (zS aj (Zaj (bW))); replace a := mA (blkB a.out hb); replace HB := mA (Zaf (bW) hb); (try clear hb); (try clear hb2); (try clear hk); (try clear hi); (try clear aj); obtain ⟨ao, ap, aq⟩ := zP P.out; subst aq))
   go_loopg [27] ae (fun kq v27 w' => ∃ (b : Int), v27 = .int .i64 b ∧ Zac (Zay.l0 kq o (o.length : Int) b d c = some r) ∧ Zac (kq ≤ ae) ∧ Zac (Kd.R (Kd.int .i64) 2 w' w.heap.size (fun _ => True) (.slice ao o.length ap) o) ∧ Zac (w'.heap[g]? = some (.cells #[.int .i64 d, (.slice l c.length m)] 30 (0, 0))) ∧ Zac (Below w.heap.size w w'))
   case atStart => exact ⟨(0), (eW), H', ⟨Nat.le_refl _⟩, ⟨rP P.out⟩, ⟨bP a.out⟩, ⟨bW⟩⟩
   case round =>
    clear H' X Y aa ab
    obtain ⟨b, rfl, HA, ak, A, a, HB⟩ := hrel
    cases gk with
    | zero => exact absurd HA.out (by simp [Zay.l0])
    | succ k2 =>
     have H := HA.out
     clear HA
     simp only [Zay.l0] at H
     by_cases I : b < (o.length : Int); rotate_left
     ·rw [if_neg I] at H
      have af := dF I
      clear I
      obtain rfl := oI H
      go_wp2
      go_ret
      exact ⟨eW, bW⟩
     rw [if_pos I] at H
     have af := dT I
     clear I
     obtain ⟨aJ, H⟩ := gE H
     obtain ⟨aK, H⟩ := gE H
     obtain ⟨aL, H⟩ := gE H
     by_cases D : (rd o b) = (rd c b); rotate_left
     ·rw [if_neg D] at H
      have ag : ((rd o b) == (rd c b)) = false := beq_eq_false_iff_ne.mpr D
      have ah : ((rd o b) != (rd c b)) = true := bne_iff_ne.mpr D
      obtain rfl := oI H
      have p : 0 ≤ (b : Int) := ofD
      have q : b < (o.length : Int) := ofD
      obtain ⟨T, E, J⟩ := zO (zJ A.out).2.2 b p q
      cases E
      replace p := eq_true p
      replace q := eq_true q
      have au : wr.cell? ⟨g, 0, none⟩ = some (.int .i64 d) := bc a 0
      have av : wr.cell? ⟨g, 1, none⟩ = some (.slice l c.length m) := bc a 1
      have aw := Zae a.out 0
      have ax := Zae a.out 1
      have s : 0 ≤ (b : Int) := ofD
      have u : b < (c.length : Int) := ofD
      obtain ⟨U, G, j⟩ := zO v.out b s u
      cases G
      replace j := (HB.out.cell (wB w j)).trans j
      replace s := eq_true s
      replace u := eq_true u
      go_wp2
      go_ret
      exact ⟨eW, bW⟩
     rw [if_pos D] at H
     have ag : ((rd o b) == (rd c b)) = true := beq_iff_eq.mpr D
     have ah : ((rd o b) != (rd c b)) = false := bne_eq_false_iff_eq.mpr D
     clear D
     obtain ⟨ar, al, H⟩ := bA H
     by_cases W : ar = true; rotate_left
     ·replace W := Bool.eq_false_iff.mpr W
      subst W
      rw [iF] at H
      obtain rfl := oI H
      have p : 0 ≤ (b : Int) := ofD
      have q : b < (o.length : Int) := ofD
      obtain ⟨T, E, J⟩ := zO (zJ A.out).2.2 b p q
      cases E
      replace p := eq_true p
      replace q := eq_true q
      have ay : wr.cell? ⟨g, 0, none⟩ = some (.int .i64 d) := bc a 0
      have az : wr.cell? ⟨g, 1, none⟩ = some (.slice l c.length m) := bc a 1
      have aA := Zae a.out 0
      have aB := Zae a.out 1
      have s : 0 ≤ (b : Int) := ofD
      have u : b < (c.length : Int) := ofD
      obtain ⟨U, G, j⟩ := zO v.out b s u
      cases G
      replace j := (HB.out.cell (wB w j)).trans j
      replace s := eq_true s
      replace u := eq_true u
      go_wp2_with (first | (go_at_call 109; (with_reducible refine (impl_has.calls (rd o b) b false _ al.out).mono ?_); rintro e w' ⟨rfl, ⟨nd, rfl⟩⟩))
      go_ret
      exact ⟨eW, bW⟩
     subst W
     rw [if_pos rfl] at H
     have H' := mA H
     clear H
     have p : 0 ≤ (b : Int) := ofD
     have q : b < (o.length : Int) := ofD
     obtain ⟨T, E, J⟩ := zO (zJ A.out).2.2 b p q
     cases E
     replace p := eq_true p
     replace q := eq_true q
     have aC : wr.cell? ⟨g, 0, none⟩ = some (.int .i64 d) := bc a 0
     have aD : wr.cell? ⟨g, 1, none⟩ = some (.slice l c.length m) := bc a 1
     have aE := Zae a.out 0
     have aF := Zae a.out 1
     have s : 0 ≤ (b : Int) := ofD
     have u : b < (c.length : Int) := ofD
     obtain ⟨U, G, j⟩ := zO v.out b s u
     cases G
     replace j := (HB.out.cell (wB w j)).trans j
     replace s := eq_true s
     replace u := eq_true u
     go_wp2_with (first | (go_at_call 109; (with_reducible refine (impl_has.calls (rd o b) b true _ al.out).mono ?_); rintro e w' ⟨rfl, ⟨nd, rfl⟩⟩))
     go_roundg k2
     case measure => have := ai.out; have := ak.out; omega
     case rel => exact ⟨(wrap64 (b + 1)), (eW), H', ⟨by have := ai.out; have := ak.out; omega⟩, ⟨rP A.out⟩, ⟨bP a.out⟩, ⟨bW⟩⟩
end Go.Proofs.YtjdkedmdeajmgaaDoor.P
end M0
