import Derived.Test.YtgindgodfcfgkaaDoorCFnExactLettersCommute16
set_option maxHeartbeats 8000000
set_option maxRecDepth 100000
section M0
namespace Go.Proofs.YtgindgodfcfgkaaDoor.P
open Go.RowKit Go.Proofs.YtgindgodfcfgkaaDoor.Sh Go.Proofs.YtgindgodfcfgkaaDoorW.PrintWords Go.Proofs.YtgindgodfcfgkaaDoorW.PrintLast Go.Proofs.YtgindgodfcfgkaaDoorW.PrintMore
open Kd
attribute [local go_sem] Zcd Zca Zcn Zcm Zb1 Zb2 Zcc Zce   -- for this text's walks alone
set_option linter.unusedVariables false
set_option linter.unusedSimpArgs false
mutual
def Zaw.l0 : Nat → List (List Int) → Int → Int → Int → Int → List Bool → List (List Int) → Option ((List (List Int)))
 | 0, _, _, _, _, _, _, _ => none
 | k + 1, x3, x9, e, b, c, d, a => if e < x9 then ((Zbq.f a).bind fun g => (Zaw.l1 k x3 e (([] : List Int)) x9 e g 0 b c d a)) else (some x3)
def Zaw.l1 : Nat → List (List Int) → Int → List Int → Int → Int → Int → Int → Int → Int → List Bool → List (List Int) → Option ((List (List Int)))
 | 0, _, _, _, _, _, _, _, _, _, _, _ => none
 | k + 1, x3, x4, x5, x9, g, h, e, a, b, c, d => if e < h then ((Zc1.f a b c d e x4).bind fun i => (if x5.length < 17592186044416 then (Zaw.l1 k x3 x4 (x5 ++ [i]) x9 g h (wrap64 (e + 1)) a b c d) else (none))) else (if x3.length < 5864062014805 then (Zaw.l0 k (x3 ++ [x5]) x9 (wrap64 (g + 1)) a b c d) else (none))
end
def Zaw.f (k : Nat) (a : Int) (b : Int) (c : List Bool) (d : List (List Int)) : Option ((List (List Int))) := Zaw.l0 k (([] : List (List Int))) a 0 a b c d
theorem Zaw.calls (k : Nat) (d : Int) (l : Int) (u : Option Addr) (v : Nat) (i : List Bool) (p : Option Addr) (q : Nat) (c : List (List Int)) (r : List (List Int)) (w : World) (M : Kd.C Kd.bool w u i.length i) (O : i.length ≤ v) (P : Kd.C (Kd.slice 2 (Kd.int .i64)) w p c.length c) (T : c.length ≤ q) (h : Zaw.f k d l i c = some r) :
  Calls Tryd.prog 32 #[.agg #[.int .i64 d, .int .i64 l, .slice u i.length v, .slice p c.length q]] w fun e w' => ∃ aT : Value, e = .returned (aT) ∧ Kd.S (Kd.slice 2 (Kd.int .i64)) 22 w' w.heap.size (fun _ => True) aT r ∧ Below w.heap.size w w' := by
 have a9 := Tryd.underlying48
 have aD := mA M
 have aE := mA O
 clear M O
 have U := mA P
 have W := mA T
 clear P T
 have HB := mA (Below.refl w.heap.size w)
 unfold Zaw.f at h
 have H := h
 clear h
 obtain ⟨am, E⟩ : ∃ y_ : List (List Int), y_ = (([] : List (List Int))) := ⟨_, rfl⟩
 replace H : (Zaw.l0 k am d 0 d l i c) = some r := by rw [E]; with_reducible exact H
 have X := mA E
 clear E
 have H' := mA H
 clear H
 go_enter Tryd.func32, Tryd.ntmps32
 go_wp2_with (first | ((with_reducible refine Zap (N := 1) rfl ?_); refine boxS (N := 1) (cs := #[.int .i64 d, .int .i64 l, .slice u i.length v, .slice p c.length q]) (t := 48) ?_; intro n hg w2 hbox hb; have a := mA (hbox); have a7 := geW (w := w) hg; have a8 := geW (w := w) hg; replace HB := mA (Zac (bW) hb); clear hb hbox hg) | ((with_reducible refine Zap (N := 7) rfl ?_); refine Kd.S_lit (Kd.slice 2 (Kd.int .i64)) _ 22 ?hg (N := 7) ?hd (xs := ([] : List (List Int))) (inner := []) (ok := fun _ => True) (okp := fun _ => True) ?hr ?hp (fun _ hk => hk) trivial (Below.refl _ _) (Nat.le_refl _) (by simp) ?_; (case hd => rfl); (case hg => rfl); (case hr => first | (go_simp; done) | (go_simp; rfl)); (case hp => exact (Reps.none _ _)); intro ba w3 L hb hg_ hnew_; clear hg_ hnew_; (first | rw [← X.out] at L | (simp only [Int.reduceToNat] at L; rw [← X.out] at L)); have aG := mA (xQ L (Zag (bW))); replace a := mA (blkB a.out hb); replace HB := mA (Zac (bW) hb); clear hb L; obtain ⟨an, ao, ap, aq⟩ := Zbi a.out; obtain ⟨ar, au, av, aw⟩ := frz4 a.out))
 go_loopg [3, 10] k (fun kq v3 v10 w' => ∃ (x : List (List Int)) (m : Int), v10 = .int .i64 m ∧ Zaa (Zaw.l0 kq x d m d l i c = some r) ∧ Zaa (kq ≤ k) ∧ Zaa (Kd.S (Kd.slice 2 (Kd.int .i64)) 22 w' w.heap.size (fun _ => True) v3 x) ∧ Zaa (w'.heap[n]? = some (.cells #[.int .i64 d, .int .i64 l, (.slice u i.length v), (.slice p c.length q)] 48 (0, 0))) ∧ Zaa (Below w.heap.size w w'))
 case atStart => exact ⟨(am), (0), (eW), H', ⟨Nat.le_refl _⟩, ⟨sP aG.out⟩, ⟨bP a.out⟩, ⟨bW⟩⟩
 case round =>
  clear H' an ao ap aq ar au av aw
  obtain ⟨x, m, rfl, HA, Y, j, a, HB⟩ := hrel
  cases gk with
  | zero => exact absurd HA.out (by simp [Zaw.l0])
  | succ k1 =>
   have H := HA.out
   clear HA
   simp only [Zaw.l0] at H
   by_cases c6 : m < d; rotate_left
   ·rw [if_neg c6] at H
    have ax := dF c6
    clear c6
    obtain rfl := oI H
    go_wp2
    go_ret
    exact ⟨_, eW, (sP j.out), bW⟩
   rw [if_pos c6] at H
   have ax := dT c6
   clear c6
   obtain ⟨ay, G⟩ : ∃ y_ : List Int, y_ = (([] : List Int)) := ⟨_, rfl⟩
   replace H : ((Zbq.f c).bind fun A => (Zaw.l1 k1 x m ay d m A 0 d l i c)) = some r := by rw [G]; with_reducible exact H
   have aa := mA G
   clear G
   replace H := bE H
   obtain ⟨A, aU, H⟩ := H
   have A7 := mA aU
   clear aU
   have H' := mA H
   clear H
   go_wp2_with (first | ((with_reducible refine Zap (N := 13) rfl ?_); refine yT (Kd.int .i64) _ 2 ?hg (N := 13) ?hd (xs := ([] : List Int)) (inner := []) (ok := fun _ => True) (okp := fun _ => True) ?hr ?hp (fun _ hk => hk) trivial (Below.refl _ _) (Nat.le_refl _) (by simp) ?_; (case hd => rfl); (case hg => rfl); (case hr => first | (go_simp; done) | (go_simp; rfl)); (case hp => exact (Reps.none _ _)); intro bb w8 B hb hg_ hnew_; clear hg_ hnew_; (first | rw [← aa.out] at B | (simp only [Int.reduceToNat] at B; rw [← aa.out] at B)); replace j := mA (xB (sP j.out) (zH B) hb); have aH := mA (zP B (Zag (bW))); replace a := mA (blkB a.out hb); replace HB := mA (Zac (bW) hb); clear hb B; obtain ⟨ae, af, ag, ah⟩ := Zbi a.out; obtain ⟨ai, aj, ak, al⟩ := frz4 a.out) | ((with_reducible refine Zav (f := 53) rfl ?_); refine Zbo (some 16) Tryd.func53 #[.slice p c.length q] ?_; (with_reducible refine (Zbq.calls _ _ c A _ ?side1 ?side2 A7.out).mono ?_); (case side1 => exact cP (zF U.out HB.out)); (case side2 => exact W.out); rintro e w' ⟨rfl, ⟨nd, rfl⟩⟩; refine ⟨_, rfl, ?_⟩))
   go_loopg [5, 17] k1 (fun kq v5 v17 w' => ∃ (s : List Int) (y : Int), v17 = .int .i64 y ∧ Zaa (Zaw.l1 kq x m s d m A y d l i c = some r) ∧ Zaa (kq ≤ k1) ∧ Zaa (Kd.S (Kd.slice 2 (Kd.int .i64)) 22 w' w.heap.size (fun k_ => some k_ ≠ (v5 : Value).ownBlock) u3 x) ∧ Zaa (Kd.R (Kd.int .i64) 2 w' w.heap.size (fun _ => True) v5 s) ∧ Zaa (w'.heap[n]? = some (.cells #[.int .i64 d, .int .i64 l, (.slice u i.length v), (.slice p c.length q)] 48 (0, 0))) ∧ Zaa (Below w.heap.size w w'))
   case atStart => exact ⟨(ay), (0), (eW), H', ⟨Nat.le_refl _⟩, ⟨by (with_reducible repeat (first | apply yD | apply yE | apply zW)); exact yC j.out (fun _ hk => hk.2)⟩, ⟨rP aH.out⟩, ⟨bP a.out⟩, ⟨bW⟩⟩
   case round =>
    clear H' ax ae af ag ah ai aj ak al
    obtain ⟨s, y, rfl, HA, ab, j, z, a, HB⟩ := hrel
    cases gk with
    | zero => exact absurd HA.out (by simp [Zaw.l1])
    | succ k2 =>
     have H := HA.out
     clear HA
     simp only [Zaw.l1] at H
     by_cases D : y < A; rotate_left
     ·rw [if_neg D] at H
      have aI := dF D
      clear D
      by_cases ac : x.length < 5864062014805; rotate_left
      ·rw [if_neg ac] at H
       exact absurd H (by simp)
      rw [if_pos ac] at H
      have aJ := mA ac
      clear ac
      obtain ⟨aV, I⟩ : ∃ y_ : List (List Int), y_ = (x ++ [s]) := ⟨_, rfl⟩
      rw [← I] at H
      have aK := mA I
      clear I
      have H' := mA H
      clear H
      obtain ⟨az, aA, aW⟩ := zJ z.out
      subst aW
      go_wp2_with (first | ((with_reducible refine Zbl (b := .append) (xs := #[.tmp 28, .tmp 30]) rfl ?_); at_builtin; refine Kd.S_append (Kd.slice 2 (Kd.int .i64)) (w0 := w) w.heap.size rfl (.tmp 28) (.tmp 30) 25 22 (.slice none 0 0) 24 rfl Tryd.underlying25 info22 rfl (by decide) (by omega) u3 x s [.slice az s.length aA] (fun _ => True) (fun k_ => some k_ = (.slice az s.length aA : Value).ownBlock) rfl rfl ?aP (fun k_ hk_ => ((zB (ok' := fun k_ => ((fun _ => True)) k_ ∧ some k_ ≠ (u3 : Value).ownBlock) (yY (z.out) (xJ j.out) (by decide)) (fun k_ hk => ⟨trivial, hk.2⟩))).1 k_ hk_.symm) ?aF ?aO ?aB ?aS ?aL ?_; (case aP => exact Kd.M_row (zB (Kd.R_tight rfl (zB (ok' := fun k_ => ((fun _ => True)) k_ ∧ some k_ ≠ (u3 : Value).ownBlock) (yY (z.out) (xJ j.out) (by decide)) (fun k_ hk => ⟨trivial, hk.2⟩))) (fun _ h_ => h_))); (case aB => exact (bW)); (case aF => exact (fun _ _ => trivial)); (case aO => exact (by (with_reducible repeat (first | apply yD | apply yE | apply zW)); exact yC j.out (fun k_ hk => ⟨trivial, fun e_ => hk e_⟩))); (case aS => exact (Zag (bW))); (case aL => have := aJ.out; omega); intro bd bg ho hb hg hat; rw [← aK.out] at ho; replace a := mA (Zaq (g := n) (o := .cells #[.int .i64 d, .int .i64 l, .slice u i.length v, .slice p c.length q] 48 (0, 0)) (bP a.out) hg (Kd.S_ne j.out a.out (by decide))); replace HB := mA (hb); have aM := mA (ho); clear j z ho hb hg hat))
      go_roundg k2
      case measure => have := Y.out; have := ab.out; omega
      case rel => exact ⟨(aV), (wrap64 (m + 1)), (eW), H', ⟨by have := Y.out; have := ab.out; omega⟩, ⟨sP aM.out⟩, ⟨bP a.out⟩, ⟨bW⟩⟩
     rw [if_pos D] at H
     have aI := dT D
     clear D
     replace H := bE H
     obtain ⟨J, aC, H⟩ := H
     have a6 := mA aC
     clear aC
     by_cases ad : s.length < 17592186044416; rotate_left
     ·rw [if_neg ad] at H
      exact absurd H (by simp)
     rw [if_pos ad] at H
     have aN := mA ad
     clear ad
     obtain ⟨aX, K⟩ : ∃ y_ : List Int, y_ = (s ++ [J]) := ⟨_, rfl⟩
     rw [← K] at H
     have aQ := mA K
     clear K
     have H' := mA H
     clear H
     have aY : wr.cell? ⟨n, 0, none⟩ = some (.int .i64 d) := bc a 0
     have aZ : wr.cell? ⟨n, 1, none⟩ = some (.int .i64 l) := bc a 1
     have a0 : wr.cell? ⟨n, 2, none⟩ = some (.slice u i.length v) := bc a 2
     have a1 : wr.cell? ⟨n, 3, none⟩ = some (.slice p c.length q) := bc a 3
     have a2 := Zab a.out 0
     have a3 := Zab a.out 1
     have a4 := Zab a.out 2
     have a5 := Zab a.out 3
     go_wp2_with (first | ((with_reducible refine Zav (f := 54) rfl ?_); refine Zbo (some 24) Tryd.func54 #[.agg #[.int .i64 d, .int .i64 l, .slice u i.length v, .slice p c.length q], .int .i64 y, .int .i64 m] ?_; (with_reducible refine (Zc1.calls d l _ _ i _ _ c y m J _ ?side1 ?side2 ?side3 ?side4 a6.out).mono ?_); (case side1 => exact cP (zF aD.out HB.out)); (case side2 => exact aE.out); (case side3 => exact cP (zF U.out HB.out)); (case side4 => exact W.out); rintro e bh ⟨rfl, hb⟩; refine ⟨_, rfl, ?_⟩; replace j := mA (yQ (sP j.out) hb); replace z := mA (zK (rP z.out) hb); replace a := mA (blkB a.out hb); replace HB := mA (Zac (bW) hb); (try clear hb); (try clear hb2); (try clear hk); (try clear hi)) | ((with_reducible refine Zbl (b := .append) (xs := #[.tmp 20, .tmp 25]) rfl ?_); at_builtin; refine xI (Kd.int .i64) (w0 := w) w.heap.size rfl (.tmp 20) (.tmp 25) 22 2 (.int .i64 0) 8 rfl Tryd.underlying22 info2 rfl (by decide) (by omega) u5 s J [.int .i64 J] (fun _ => True) (fun _ => False) rfl rfl ?aP (fun _ hk => hk.elim) ?aF ?aO ?aB ?aS ?aL ?_; (case aP => exact rfl); (case aB => exact (bW)); (case aF => exact (fun _ _ => trivial)); (case aO => exact (rP z.out)); (case aS => exact (Zag (bW))); (case aL => have := aN.out; omega); intro bf bi ho hb hg hat; rw [← aQ.out] at ho; replace j := mA (xY (ok := (fun _ => True)) (by (with_reducible repeat (first | apply yD | apply yE | apply zW)); exact yC j.out (fun _ hk => ⟨trivial, hk⟩)) hg hat); replace a := mA (Zaq (g := n) (o := .cells #[.int .i64 d, .int .i64 l, .slice u i.length v, .slice p c.length q] 48 (0, 0)) (bP a.out) hg (zO z.out a.out (by decide))); replace HB := mA (hb); have aR := mA (ho); clear z ho hb hg hat))
     go_roundg k2
     case measure => have := Y.out; have := ab.out; omega
     case rel => exact ⟨(aX), (wrap64 (y + 1)), (eW), H', ⟨by have := Y.out; have := ab.out; omega⟩, ⟨by (with_reducible repeat (first | apply yD | apply yE | apply zW)); exact yC j.out (fun _ hk => hk.2)⟩, ⟨rP aR.out⟩, ⟨bP a.out⟩, ⟨bW⟩⟩
def Za6.l0 : Nat → List Int → List Int → Int → Int → Option (Bool)
 | 0, _, _, _, _ => none
 | k + 1, x0, x1, b, a => if a < b then (if 0 ≤ a then (if a < (x0.length : Int) then (if a < (x1.length : Int) then (if (rd x0 a) = (rd x1 a) then (Za6.l0 k x0 x1 b (wrap64 (a + 1))) else (some false)) else (none)) else (none)) else (none)) else (some true)
def Za6.f (k : Nat) (l0 : List Int) (l1 : List Int) : Option (Bool) := if (l0.length : Int) = (l1.length : Int) then (Za6.l0 k l0 l1 (l0.length : Int) 0) else (some false)
theorem Za6.calls (k : Nat) (A0 : Option Addr) (c0 : Nat) (l0 : List Int) (A1 : Option Addr) (c1 : Nat) (l1 : List Int) (r : Bool) (w : World) (t : Kd.C (Kd.int .i64) w A0 l0.length l0) (u : l0.length ≤ c0) (v : Kd.C (Kd.int .i64) w A1 l1.length l1) (x : l1.length ≤ c1) (h : Za6.f k l0 l1 = some r) :
  Calls Tryd.prog 34 #[.slice A0 l0.length c0, .slice A1 l1.length c1] w fun e w' => e = .returned (.bool r) ∧ Zar w w' := by
 have y := mA t
 have J := mA u
 clear t u
 have z := mA v
 have K := mA x
 clear v x
 unfold Za6.f at h
 have H := h
 clear h
 by_cases c3 : (l0.length : Int) = (l1.length : Int); rotate_left
 ·rw [if_neg c3] at H
  have n : ((l0.length : Int) == (l1.length : Int)) = false := beq_eq_false_iff_ne.mpr c3
  have o : ((l0.length : Int) != (l1.length : Int)) = true := bne_iff_ne.mpr c3
  have p : (l0.length == l1.length) = false := by first | simpa using c3 | (simp at c3 ⊢; omega)
  obtain rfl := oI H
  go_enter Tryd.func34, Tryd.ntmps34
  go_wp2
  repeat (go_quiet (fail); try go_wp2)
  go_ret
  exact ⟨eW, by repeat (first | exact Zar.refl _ | apply Zar.step)⟩
 rw [if_pos c3] at H
 have n : ((l0.length : Int) == (l1.length : Int)) = true := beq_iff_eq.mpr c3
 have o : ((l0.length : Int) != (l1.length : Int)) = false := bne_eq_false_iff_eq.mpr c3
 have p : (l0.length == l1.length) = true := by first | simpa using c3 | (simp at c3 ⊢; omega)
 clear c3
 have H' := mA H
 clear H
 go_enter Tryd.func34, Tryd.ntmps34
 go_wp2
 repeat (go_quiet (fail); try go_wp2)
 go_loopg [13] k (fun kq v13 w' => ∃ (a : Int), v13 = .int .i64 a ∧ Zaa (Za6.l0 kq l0 l1 (l0.length : Int) a = some r) ∧ Zaa (kq ≤ k) ∧ Zar w w')
 case atStart => exact ⟨(0), (eW), H', ⟨Nat.le_refl _⟩, by repeat (first | exact Zar.refl _ | apply Zar.step)⟩
 case round =>
  clear H' n o p
  obtain ⟨a, rfl, HA, HK1, ⟨m1, rfl⟩⟩ := hrel
  cases gk with
  | zero => exact absurd HA.out (by simp [Za6.l0])
  | succ k1 =>
   have H := HA.out
   clear HA
   simp only [Za6.l0] at H
   by_cases c4 : a < (l0.length : Int); rotate_left
   ·rw [if_neg c4] at H
    have A := dF c4
    clear c4
    obtain rfl := oI H
    go_wp2
    repeat (go_quiet (fail); try go_wp2)
    go_ret
    exact ⟨eW, by repeat (first | exact Zar.refl _ | apply Zar.step)⟩
   rw [if_pos c4] at H
   have A := dT c4
   clear c4
   by_cases c5 : 0 ≤ a; rotate_left
   ·rw [if_neg c5] at H
    exact absurd H (by simp)
   rw [if_pos c5] at H
   have E := dT c5
   clear c5
   by_cases c6 : a < (l0.length : Int); rotate_left
   ·rw [if_neg c6] at H
    exact absurd H (by simp)
   rw [if_pos c6] at H
   have G := dT c6
   clear c6
   by_cases c7 : a < (l1.length : Int); rotate_left
   ·rw [if_neg c7] at H
    exact absurd H (by simp)
   rw [if_pos c7] at H
   have I := dT c7
   clear c7
   by_cases c8 : (rd l0 a) = (rd l1 a); rotate_left
   ·rw [if_neg c8] at H
    have B : ((rd l0 a) == (rd l1 a)) = false := beq_eq_false_iff_ne.mpr c8
    have D : ((rd l0 a) != (rd l1 a)) = true := bne_iff_ne.mpr c8
    obtain rfl := oI H
    have b : 0 ≤ (a : Int) := ofD
    have c : a < (l0.length : Int) := ofD
    obtain ⟨q, i, l⟩ := zI y.out a b c
    cases i
    replace b := eq_true b
    replace c := eq_true c
    have d : 0 ≤ (a : Int) := ofD
    have g : a < (l1.length : Int) := ofD
    obtain ⟨s, j, m⟩ := zI z.out a d g
    cases j
    replace d := eq_true d
    replace g := eq_true g
    go_wp2
    repeat (go_quiet (fail); try go_wp2)
    go_ret
    exact ⟨eW, by repeat (first | exact Zar.refl _ | apply Zar.step)⟩
   rw [if_pos c8] at H
   have B : ((rd l0 a) == (rd l1 a)) = true := beq_iff_eq.mpr c8
   have D : ((rd l0 a) != (rd l1 a)) = false := bne_eq_false_iff_eq.mpr c8
   clear c8
   have H' := mA H
   clear H
   have b : 0 ≤ (a : Int) := ofD
   have c : a < (l0.length : Int) := ofD
   obtain ⟨q, i, l⟩ := zI y.out a b c
   cases i
   replace b := eq_true b
   replace c := eq_true c
   have d : 0 ≤ (a : Int) := ofD
   have g : a < (l1.length : Int) := ofD
   obtain ⟨s, j, m⟩ := zI z.out a d g
   cases j
   replace d := eq_true d
   replace g := eq_true g
   go_wp2
   repeat (go_quiet (fail); try go_wp2)
   go_roundg k1
   case measure => have := HK1.out; omega
   case rel => exact ⟨(wrap64 (a + 1)), (eW), H', ⟨by have := HK1.out; omega⟩, by repeat (first | exact Zar.refl _ | apply Zar.step)⟩
def Zbm.l0 : Nat → List Int → List Int → List Int → Int → Int → Option (List Int)
 | 0, _, _, _, _, _ => none
 | k + 1, x1, x5, x9, b, a => if a < b then (if 0 ≤ a then (if a < (x9.length : Int) then (if (rd x9 a) < 0 then (if x5.length < 17592186044416 then (Zbm.l0 k x1 (x5 ++ [(-1)]) x9 b (wrap64 (a + 1))) else (none)) else (if 0 ≤ (rd x9 a) then (if (rd x9 a) < (x1.length : Int) then (if x5.length < 17592186044416 then (Zbm.l0 k x1 (x5 ++ [rd x1 (rd x9 a)]) x9 b (wrap64 (a + 1))) else (none)) else (none)) else (none))) else (none)) else (none)) else (some x5)
def Zbm.f (k : Nat) (l0 : List Int) (l1 : List Int) : Option (List Int) := Zbm.l0 k l1 (([] : List Int)) l0 (l0.length : Int) 0
theorem Zbm.calls (k : Nat) (A0 : Option Addr) (c0 : Nat) (l0 : List Int) (A1 : Option Addr) (c1 : Nat) (l1 : List Int) (r : List Int) (w : World) (L : Kd.C (Kd.int .i64) w A0 l0.length l0) (M : l0.length ≤ c0) (O : Kd.C (Kd.int .i64) w A1 l1.length l1) (P : l1.length ≤ c1) (h : Zbm.f k l0 l1 = some r) :
  Calls Tryd.prog 35 #[.slice A0 l0.length c0, .slice A1 l1.length c1] w fun e w' => ∃ T : Value, e = .returned (T) ∧ Kd.R (Kd.int .i64) 2 w' w.heap.size (fun _ => True) T r ∧ Below w.heap.size w w' := by
 have U := mA L
 have am := mA M
 clear L M
 have ad := mA O
 have an := mA P
 clear O P
 have HB := mA (Below.refl w.heap.size w)
 unfold Zbm.f at h
 have H := h
 clear h
 obtain ⟨A, m⟩ : ∃ y_ : List Int, y_ = (([] : List Int)) := ⟨_, rfl⟩
 replace H : (Zbm.l0 k l1 A l0 (l0.length : Int) 0) = some r := by rw [m]; with_reducible exact H
 have u := mA m
 clear m
 have H' := mA H
 clear H
 go_enter Tryd.func35, Tryd.ntmps35
 go_wp2_with (first | ((with_reducible refine Zap (N := 8) rfl ?_); refine yT (Kd.int .i64) _ 2 ?hg (N := 8) ?hd (xs := ([] : List Int)) (inner := []) (ok := fun _ => True) (okp := fun _ => True) ?hr ?hp (fun _ hk => hk) trivial (Below.refl _ _) (Nat.le_refl _) (by simp) ?_; (case hd => rfl); (case hg => rfl); (case hr => first | (go_simp; done) | (go_simp; rfl)); (case hp => exact (Reps.none _ _)); intro ah w3 p hb hg_ hnew_; clear hg_ hnew_; (first | rw [← u.out] at p | (simp only [Int.reduceToNat] at p; rw [← u.out] at p)); have B := mA (zP p (Zag (bW))); replace HB := mA (Zac (bW) hb); clear hb p))
 go_loopg [5, 11] k (fun kq v5 v11 w' => ∃ (d : List Int) (a : Int), v11 = .int .i64 a ∧ Zaa (Zbm.l0 kq l1 d l0 (l0.length : Int) a = some r) ∧ Zaa (kq ≤ k) ∧ Zaa (Kd.R (Kd.int .i64) 2 w' w.heap.size (fun _ => True) v5 d) ∧ Zaa (Below w.heap.size w w'))
 case atStart => exact ⟨(A), (0), (eW), H', ⟨Nat.le_refl _⟩, ⟨rP B.out⟩, ⟨bW⟩⟩
 case round =>
  clear H'
  obtain ⟨d, a, rfl, HA, v, l, HB⟩ := hrel
  cases gk with
  | zero => exact absurd HA.out (by simp [Zbm.l0])
  | succ k1 =>
   have H := HA.out
   clear HA
   simp only [Zbm.l0] at H
   by_cases c5 : a < (l0.length : Int); rotate_left
   ·rw [if_neg c5] at H
    have W := dF c5
    clear c5
    obtain rfl := oI H
    go_wp2
    go_ret
    exact ⟨_, eW, (rP l.out), bW⟩
   rw [if_pos c5] at H
   have W := dT c5
   clear c5
   by_cases c6 : 0 ≤ a; rotate_left
   ·rw [if_neg c6] at H
    exact absurd H (by simp)
   rw [if_pos c6] at H
   have ai := dT c6
   clear c6
   by_cases c7 : a < (l0.length : Int); rotate_left
   ·rw [if_neg c7] at H
    exact absurd H (by simp)
   rw [if_pos c7] at H
   have aj := dT c7
   clear c7
   by_cases c8 : (rd l0 a) < 0
   ·rw [if_pos c8] at H
    have X := dT c8
    clear c8
    by_cases c9 : d.length < 17592186044416; rotate_left
    ·rw [if_neg c9] at H
     exact absurd H (by simp)
    rw [if_pos c9] at H
    have Y := mA c9
    clear c9
    obtain ⟨aa, n⟩ : ∃ y_ : List Int, y_ = (d ++ [(-1)]) := ⟨_, rfl⟩
    rw [← n] at H
    have D := mA n
    clear n
    have H' := mA H
    clear H
    have g : 0 ≤ (a : Int) := ofD
    have i : a < (l0.length : Int) := ofD
    obtain ⟨E, q, c⟩ := zI U.out a g i
    cases q
    replace c := (HB.out.cell (wB w c)).trans c
    replace g := eq_true g
    replace i := eq_true i
    go_wp2_with (first | ((with_reducible refine Zbl (b := .append) (xs := #[.tmp 17, .tmp 18]) rfl ?_); at_builtin; refine xI (Kd.int .i64) (w0 := w) w.heap.size rfl (.tmp 17) (.tmp 18) 22 2 (.int .i64 0) 8 rfl Tryd.underlying22 info2 rfl (by decide) (by omega) u5 d (-1) [.int .i64 (-1)] (fun _ => True) (fun _ => False) rfl rfl ?aP (fun _ hk => hk.elim) ?aF ?aO ?aB ?aS ?aL ?_; (case aP => exact rfl); (case aB => exact (bW)); (case aF => exact (fun _ _ => trivial)); (case aO => exact (rP l.out)); (case aS => exact (Zag (bW))); (case aL => have := Y.out; omega); intro ak ao ho hb hg hat; rw [← D.out] at ho; replace HB := mA (hb); have G := mA (ho); clear l ho hb hg hat))
    go_roundg k1
    case measure => have := v.out; omega
    case rel => exact ⟨(aa), (wrap64 (a + 1)), (eW), H', ⟨by have := v.out; omega⟩, ⟨rP G.out⟩, ⟨bW⟩⟩
   rw [if_neg c8] at H
   have X := dF c8
   clear c8
   by_cases x : 0 ≤ (rd l0 a); rotate_left
   ·rw [if_neg x] at H
    exact absurd H (by simp)
   rw [if_pos x] at H
   have ae := dT x
   clear x
   by_cases y : (rd l0 a) < (l1.length : Int); rotate_left
   ·rw [if_neg y] at H
    exact absurd H (by simp)
   rw [if_pos y] at H
   have af := dT y
   clear y
   by_cases z : d.length < 17592186044416; rotate_left
   ·rw [if_neg z] at H
    exact absurd H (by simp)
   rw [if_pos z] at H
   have I := mA z
   clear z
   obtain ⟨ab, o⟩ : ∃ y_ : List Int, y_ = (d ++ [rd l1 (rd l0 a)]) := ⟨_, rfl⟩
   rw [← o] at H
   have J := mA o
   clear o
   have H' := mA H
   clear H
   have g : 0 ≤ (a : Int) := ofD
   have i : a < (l0.length : Int) := ofD
   obtain ⟨E, q, c⟩ := zI U.out a g i
   cases q
   replace c := (HB.out.cell (wB w c)).trans c
   replace g := eq_true g
   replace i := eq_true i
   have s : 0 ≤ ((rd l0 a) : Int) := ofD
   have t : (rd l0 a) < (l1.length : Int) := ofD
   obtain ⟨ag, ac, j⟩ := zI ad.out (rd l0 a) s t
   cases ac
   replace j := (HB.out.cell (wB w j)).trans j
   replace s := eq_true s
   replace t := eq_true t
   go_wp2_with (first | ((with_reducible refine Zbl (b := .append) (xs := #[.tmp 20, .tmp 25]) rfl ?_); at_builtin; refine xI (Kd.int .i64) (w0 := w) w.heap.size rfl (.tmp 20) (.tmp 25) 22 2 (.int .i64 0) 8 rfl Tryd.underlying22 info2 rfl (by decide) (by omega) u5 d (rd l1 (rd l0 a)) [.int .i64 (rd l1 (rd l0 a))] (fun _ => True) (fun _ => False) rfl rfl ?aP (fun _ hk => hk.elim) ?aF ?aO ?aB ?aS ?aL ?_; (case aP => exact rfl); (case aB => exact (bW)); (case aF => exact (fun _ _ => trivial)); (case aO => exact (rP l.out)); (case aS => exact (Zag (bW))); (case aL => have := I.out; omega); intro al ap ho hb hg hat; rw [← J.out] at ho; replace HB := mA (hb); have K := mA (ho); clear l ho hb hg hat))
   go_roundg k1
   case measure => have := v.out; omega
   case rel => exact ⟨(ab), (wrap64 (a + 1)), (eW), H', ⟨by have := v.out; omega⟩, ⟨rP K.out⟩, ⟨bW⟩⟩
end Go.Proofs.YtgindgodfcfgkaaDoor.P
end M0
