import Derived.Test.YtgindgodfcfgkaaDoorCFnExactLettersCommute15
set_option maxHeartbeats 8000000
set_option maxRecDepth 100000
section M0
namespace Go.Proofs.YtgindgodfcfgkaaDoor.P
open Go.RowKit Go.Proofs.YtgindgodfcfgkaaDoor.Sh Go.Proofs.YtgindgodfcfgkaaDoorW.PrintWords Go.Proofs.YtgindgodfcfgkaaDoorW.PrintLast Go.Proofs.YtgindgodfcfgkaaDoorW.PrintMore
open Kd
attribute [local go_sem] Zcd Zca Zcn Zcm Zb1 Zb2 Zcc Zce   -- for this text's walks alone
set_option linter.unusedVariables false
set_option linter.unusedSimpArgs false
def Zdj.f (c : Int) (a : List Int) (a1 : Int) (a2 : Int) : Option (Bool) := if 0 ≤ a1 then (if a1 < (a.length : Int) then ((Zde.f (rd a a1) a2).bind fun b => (some b)) else (none)) else (none)
theorem Zdj.calls (c : Int) (d : Option Addr) (g : Nat) (a : List Int) (a1 : Int) (a2 : Int) (r : Bool) (w : World) (k : Kd.C (Kd.int .i64) w d a.length a) (l : a.length ≤ g) (h : Zdj.f c a a1 a2 = some r) :
  Calls Tryd.prog 33 #[.agg #[.int .i64 c, .slice d a.length g], .int .i64 a1, .int .i64 a2] w fun e w' => e = .returned (.bool r) ∧ Below w.heap.size w w' := by
 have E := Tryd.underlying32
 have n := mA k
 have y := mA l
 clear k l
 have HB := mA (Below.refl w.heap.size w)
 unfold Zdj.f at h
 have H := h
 clear h
 by_cases c4 : 0 ≤ a1; rotate_left
 ·rw [if_neg c4] at H
  exact absurd H (by simp)
 rw [if_pos c4] at H
 have G := dT c4
 clear c4
 by_cases c5 : a1 < (a.length : Int); rotate_left
 ·rw [if_neg c5] at H
  exact absurd H (by simp)
 rw [if_pos c5] at H
 have I := dT c5
 clear c5
 replace H := bE H
 obtain ⟨p, o, H⟩ := H
 have A6 := mA o
 clear o
 obtain rfl := oI H
 go_enter Tryd.func33, Tryd.ntmps33
 go_wp2_with (first | ((with_reducible refine Zap (N := 3) rfl ?_); refine boxS (N := 3) (cs := #[.int .i64 c, .slice d a.length g]) (t := 32) ?_; intro z hg w7 hbox hb; have m := mA (hbox); have A := geW (w := w) hg; have B := geW (w := w) hg; replace HB := mA (Zac (bW) hb); clear hb hbox hg; obtain ⟨s, u⟩ := Zc6 m.out; obtain ⟨v, x⟩ := frz2 m.out; have i : 0 ≤ (a1 : Int) := ofD; have j : a1 < (a.length : Int) := ofD; obtain ⟨D, q, b⟩ := zI n.out a1 i j; cases q; replace b := (HB.out.cell (wB w b)).trans b; replace i := eq_true i; replace j := eq_true j) | ((with_reducible refine Zav (f := 44) rfl ?_); refine Zbo (some 13) Tryd.func44 #[.int .i64 (rd a a1), .int .i64 a2] ?_; (with_reducible refine (Zde.calls (rd a a1) a2 p _ A6.out).mono ?_); rintro e w' ⟨rfl, ⟨nd, rfl⟩⟩; refine ⟨_, rfl, ?_⟩))
 go_ret
 exact ⟨eW, bW⟩
def Zc1.f (b : Int) (c : Int) (d : List Bool) (a : List (List Int)) (a1 : Int) (a2 : Int) : Option (Int) := if a1 < 0 then (some (-1)) else (if 0 ≤ a1 then (if a1 < (a.length : Int) then (if 0 ≤ a2 then (if a2 < ((Zae a a1).length : Int) then (some (rd (Zae a a1) a2)) else (none)) else (none)) else (none)) else (none))
theorem Zc1.calls (j : Int) (k : Int) (l : Option Addr) (m : Nat) (b : List Bool) (n : Option Addr) (o : Nat) (a : List (List Int)) (a1 : Int) (a2 : Int) (r : Int) (w : World) (x : Kd.C Kd.bool w l b.length b) (y : b.length ≤ m) (z : Kd.C (Kd.slice 2 (Kd.int .i64)) w n a.length a) (A : a.length ≤ o) (h : Zc1.f j k b a a1 a2 = some r) :
  Calls Tryd.prog 54 #[.agg #[.int .i64 j, .int .i64 k, .slice l b.length m, .slice n a.length o], .int .i64 a1, .int .i64 a2] w fun e w' => e = .returned (.int .i64 r) ∧ Below w.heap.size w w' := by
 have ai := Tryd.underlying48
 have ad := mA x
 have ae := mA y
 clear x y
 have D := mA z
 have af := mA A
 clear z A
 have HB := mA (Below.refl w.heap.size w)
 unfold Zc1.f at h
 have H := h
 clear h
 by_cases c4 : a1 < 0
 ·rw [if_pos c4] at H
  have J := dT c4
  clear c4
  obtain rfl := oI H
  go_enter Tryd.func54, Tryd.ntmps54
  go_wp2_with (first | ((with_reducible refine Zap (N := 3) rfl ?_); refine boxS (N := 3) (cs := #[.int .i64 j, .int .i64 k, .slice l b.length m, .slice n a.length o]) (t := 48) ?_; intro E hg w5 hbox hb; have p := mA (hbox); have G := geW (w := w) hg; have I := geW (w := w) hg; replace HB := mA (Zac (bW) hb); clear hb hbox hg))
  go_ret
  exact ⟨eW, bW⟩
 rw [if_neg c4] at H
 have J := dF c4
 clear c4
 by_cases c6 : 0 ≤ a1; rotate_left
 ·rw [if_neg c6] at H
  exact absurd H (by simp)
 rw [if_pos c6] at H
 have aj := dT c6
 clear c6
 by_cases c7 : a1 < (a.length : Int); rotate_left
 ·rw [if_neg c7] at H
  exact absurd H (by simp)
 rw [if_pos c7] at H
 have ak := dT c7
 clear c7
 by_cases c8 : 0 ≤ a2; rotate_left
 ·rw [if_neg c8] at H
  exact absurd H (by simp)
 rw [if_pos c8] at H
 have al := dT c8
 clear c8
 by_cases c9 : a2 < ((Zae a a1).length : Int); rotate_left
 ·rw [if_neg c9] at H
  exact absurd H (by simp)
 rw [if_pos c9] at H
 have am := dT c9
 clear c9
 obtain rfl := oI H
 go_enter Tryd.func54, Tryd.ntmps54
 go_wp2_with (first | ((with_reducible refine Zap (N := 3) rfl ?_); refine boxS (N := 3) (cs := #[.int .i64 j, .int .i64 k, .slice l b.length m, .slice n a.length o]) (t := 48) ?_; intro E hg an hbox hb; have p := mA (hbox); have G := geW (w := w) hg; have I := geW (w := w) hg; replace HB := mA (Zac (bW) hb); clear hb hbox hg; obtain ⟨M, O, P, T⟩ := Zbi p.out; obtain ⟨U, W, X, Y⟩ := frz4 p.out; have q : 0 ≤ (a1 : Int) := ofD; have s : a1 < (a.length : Int) := ofD; obtain ⟨ag, ab, ac, K, c, g, i⟩ := Zch D.out a1 q s; cases K; replace c := (HB.out.cell (wB w c)).trans c; have B := mA i; have aa := mA g; clear i g; replace q := eq_true q; replace s := eq_true s; have u : 0 ≤ (a2 : Int) := ofD; have v : a2 < ((Zae a a1).length : Int) := ofD; obtain ⟨ah, L, d⟩ := zI B.out a2 u v; cases L; replace d := (HB.out.cell (wB w d)).trans d; replace u := eq_true u; replace v := eq_true v))
 go_ret
 exact ⟨eW, bW⟩
end Go.Proofs.YtgindgodfcfgkaaDoor.P
end M0
section M1
namespace Go.Proofs.YtgindgodfcfgkaaDoor.P
open Go.RowKit Go.Proofs.YtgindgodfcfgkaaDoor.Sh Go.Proofs.YtgindgodfcfgkaaDoorW.PrintWords Go.Proofs.YtgindgodfcfgkaaDoorW.PrintLast Go.Proofs.YtgindgodfcfgkaaDoorW.PrintMore
open Kd
attribute [local go_sem] Zcd Zca Zcn Zcm Zb1 Zb2 Zcc Zce   -- for this text's walks alone
set_option linter.unusedVariables false
set_option linter.unusedSimpArgs false
def Zbj.l0 : Nat → List Int → List Int → Int → Option (Bool)
 | 0, _, _, _ => none
 | k + 1, x0, x1, x5 => if x5 < (x0.length : Int) then (if 0 ≤ x5 then (if x5 < (x1.length : Int) then (if (rd x0 x5) = (rd x1 x5) then (Zbj.l0 k x0 x1 (wrap64 (x5 + 1))) else (some false)) else (none)) else (none)) else (some true)
def Zbj.f (k : Nat) (l0 : List Int) (l1 : List Int) : Option (Bool) := if (l0.length : Int) = (l1.length : Int) then (Zbj.l0 k l0 l1 0) else (some false)
theorem Zbj.calls (k : Nat) (A0 : Option Addr) (c0 : Nat) (l0 : List Int) (A1 : Option Addr) (c1 : Nat) (l1 : List Int) (r : Bool) (w : World) (t : Kd.C (Kd.int .i64) w A0 l0.length l0) (u : l0.length ≤ c0) (v : Kd.C (Kd.int .i64) w A1 l1.length l1) (x : l1.length ≤ c1) (h : Zbj.f k l0 l1 = some r) :
  Calls Tryd.prog 24 #[.slice A0 l0.length c0, .slice A1 l1.length c1] w fun e w' => e = .returned (.bool r) ∧ Zar w w' := by
 have y := mA t
 have I := mA u
 clear t u
 have z := mA v
 have J := mA x
 clear v x
 unfold Zbj.f at h
 have H := h
 clear h
 by_cases c3 : (l0.length : Int) = (l1.length : Int); rotate_left
 ·rw [if_neg c3] at H
  have n : ((l0.length : Int) == (l1.length : Int)) = false := beq_eq_false_iff_ne.mpr c3
  have o : ((l0.length : Int) != (l1.length : Int)) = true := bne_iff_ne.mpr c3
  have p : (l0.length == l1.length) = false := by first | simpa using c3 | (simp at c3 ⊢; omega)
  obtain rfl := oI H
  go_enter Tryd.func24, Tryd.ntmps24
  go_wp2
  repeat (go_quiet (fail); try go_wp2)
  go_ret
  exact ⟨eW, by repeat (first | exact Zar.refl _ | apply Zar.step)⟩
 rw [if_pos c3] at H
 have n : ((l0.length : Int) == (l1.length : Int)) = true := beq_iff_eq.mpr c3
 have o : ((l0.length : Int) != (l1.length : Int)) = false := bne_eq_false_iff_eq.mpr c3
 have p : (l0.length == l1.length) = true := by first | simpa using c3 | (simp at c3 ⊢; omega)
 clear c3
 have H' := mA H
 clear H
 go_enter Tryd.func24, Tryd.ntmps24
 go_wp2
 repeat (go_quiet (fail); try go_wp2)
 go_loopg [5] k (fun kq v5 w' => ∃ (a : Int), v5 = .int .i64 a ∧ Zaa (Zbj.l0 kq l0 l1 a = some r) ∧ Zaa (kq ≤ k) ∧ Zar w w')
 case atStart => exact ⟨(0), (eW), H', ⟨Nat.le_refl _⟩, by repeat (first | exact Zar.refl _ | apply Zar.step)⟩
 case round =>
  clear H' n o p
  obtain ⟨a, rfl, HA, HK1, ⟨m1, rfl⟩⟩ := hrel
  cases gk with
  | zero => exact absurd HA.out (by simp [Zbj.l0])
  | succ k1 =>
   have H := HA.out
   clear HA
   simp only [Zbj.l0] at H
   by_cases c4 : a < (l0.length : Int); rotate_left
   ·rw [if_neg c4] at H
    have A := dF c4
    clear c4
    obtain rfl := oI H
    go_wp2
    repeat (go_quiet (fail); try go_wp2)
    go_ret
    exact ⟨eW, by repeat (first | exact Zar.refl _ | apply Zar.step)⟩
   rw [if_pos c4] at H
   have A := dT c4
   clear c4
   by_cases c5 : 0 ≤ a; rotate_left
   ·rw [if_neg c5] at H
    exact absurd H (by simp)
   rw [if_pos c5] at H
   have E := dT c5
   clear c5
   by_cases c6 : a < (l1.length : Int); rotate_left
   ·rw [if_neg c6] at H
    exact absurd H (by simp)
   rw [if_pos c6] at H
   have G := dT c6
   clear c6
   by_cases c7 : (rd l0 a) = (rd l1 a); rotate_left
   ·rw [if_neg c7] at H
    have B : ((rd l0 a) == (rd l1 a)) = false := beq_eq_false_iff_ne.mpr c7
    have D : ((rd l0 a) != (rd l1 a)) = true := bne_iff_ne.mpr c7
    obtain rfl := oI H
    have b : 0 ≤ (a : Int) := ofD
    have c : a < (l0.length : Int) := ofD
    obtain ⟨q, i, l⟩ := zI y.out a b c
    cases i
    replace b := eq_true b
    replace c := eq_true c
    have d : 0 ≤ (a : Int) := ofD
    have g : a < (l1.length : Int) := ofD
    obtain ⟨s, j, m⟩ := zI z.out a d g
    cases j
    replace d := eq_true d
    replace g := eq_true g
    go_wp2
    repeat (go_quiet (fail); try go_wp2)
    go_ret
    exact ⟨eW, by repeat (first | exact Zar.refl _ | apply Zar.step)⟩
   rw [if_pos c7] at H
   have B : ((rd l0 a) == (rd l1 a)) = true := beq_iff_eq.mpr c7
   have D : ((rd l0 a) != (rd l1 a)) = false := bne_eq_false_iff_eq.mpr c7
   clear c7
   have H' := mA H
   clear H
   have b : 0 ≤ (a : Int) := ofD
   have c : a < (l0.length : Int) := ofD
   obtain ⟨q, i, l⟩ := zI y.out a b c
   cases i
   replace b := eq_true b
   replace c := eq_true c
   have d : 0 ≤ (a : Int) := ofD
   have g : a < (l1.length : Int) := ofD
   obtain ⟨s, j, m⟩ := zI z.out a d g
   cases j
   replace d := eq_true d
   replace g := eq_true g
   go_wp2
   repeat (go_quiet (fail); try go_wp2)
   go_roundg k1
   case measure => have := HK1.out; omega
   case rel => exact ⟨(wrap64 (a + 1)), (eW), H', ⟨by have := HK1.out; omega⟩, by repeat (first | exact Zar.refl _ | apply Zar.step)⟩
def Zdf.f (k : Nat) (a : Int) (b : List Int) (c : Int) (d : List Int) : Option (Bool) := if a = c then ((Zbj.f k b d).bind fun e => (if e = true then (some true) else (some false))) else (some false)
theorem Zdf.calls (k : Nat) (j : Int) (m : Option Addr) (n : Nat) (d : List Int) (l : Int) (o : Option Addr) (p : Nat) (g : List Int) (r : Bool) (w : World) (q : Kd.C (Kd.int .i64) w m d.length d) (s : d.length ≤ n) (u : Kd.C (Kd.int .i64) w o g.length g) (v : g.length ≤ p) (h : Zdf.f k j d l g = some r) :
  Calls Tryd.prog 11 #[.agg #[.int .i64 j, .slice m d.length n], .agg #[.int .i64 l, .slice o g.length p]] w fun e w' => e = .returned (.bool r) ∧ Below w.heap.size w w' := by
 have ay := Tryd.underlying32
 have x := mA q
 have y := mA s
 clear q s
 have z := mA u
 have A := mA v
 clear u v
 have HB := mA (Below.refl w.heap.size w)
 unfold Zdf.f at h
 have H := h
 clear h
 by_cases c3 : j = l; rotate_left
 ·rw [if_neg c3] at H
  have L : (j == l) = false := beq_eq_false_iff_ne.mpr c3
  have M : (j != l) = true := bne_iff_ne.mpr c3
  obtain rfl := oI H
  go_enter Tryd.func11, Tryd.ntmps11
  go_wp2_with (first | ((with_reducible refine Zap (N := 2) rfl ?_); refine boxS (N := 2) (cs := #[.int .i64 j, .slice m d.length n]) (t := 32) ?_; intro B hg aB hbox hb; have a := mA (hbox); have D := geW (w := w) hg; have E := geW (w := w) hg; replace HB := mA (Zac (bW) hb); clear hb hbox hg) | ((with_reducible refine Zap (N := 3) rfl ?_); refine boxS (N := 3) (cs := #[.int .i64 l, .slice o g.length p]) (t := 32) ?_; intro G hg aC hbox hb; have i := mA (hbox); have I := geW (w := w) hg; have J := geW (w := w) hg; replace HB := mA (Zac (bW) hb); have b := mA (neB hg a); have c := mA (neC hg a); replace a := mA (blkB a.out hb); clear hb hbox hg; have au := b.out; have av := c.out; obtain ⟨P, T⟩ := Zc6 a.out; obtain ⟨U, W⟩ := frz2 a.out; obtain ⟨X, Y⟩ := Zc6 i.out; obtain ⟨aa, ab⟩ := frz2 i.out))
  go_ret
  exact ⟨eW, bW⟩
 rw [if_pos c3] at H
 have L : (j == l) = true := beq_iff_eq.mpr c3
 have M : (j != l) = false := bne_eq_false_iff_eq.mpr c3
 clear c3
 replace H := bE H
 obtain ⟨O, K, H⟩ := H
 have A4 := mA K
 clear K
 by_cases c5 : O = true
 ·subst c5
  rw [if_pos rfl] at H
  obtain rfl := oI H
  go_enter Tryd.func11, Tryd.ntmps11
  go_wp2_with (first | ((with_reducible refine Zap (N := 2) rfl ?_); refine boxS (N := 2) (cs := #[.int .i64 j, .slice m d.length n]) (t := 32) ?_; intro B hg w6 hbox hb; have a := mA (hbox); have D := geW (w := w) hg; have E := geW (w := w) hg; replace HB := mA (Zac (bW) hb); clear hb hbox hg) | ((with_reducible refine Zap (N := 3) rfl ?_); refine boxS (N := 3) (cs := #[.int .i64 l, .slice o g.length p]) (t := 32) ?_; intro G hg w7 hbox hb; have i := mA (hbox); have I := geW (w := w) hg; have J := geW (w := w) hg; replace HB := mA (Zac (bW) hb); have b := mA (neB hg a); have c := mA (neC hg a); replace a := mA (blkB a.out hb); clear hb hbox hg; have az := b.out; have aA := c.out; obtain ⟨ao, ap⟩ := Zc6 a.out; obtain ⟨aq, ar⟩ := frz2 a.out; obtain ⟨ac, ad⟩ := Zc6 i.out; obtain ⟨ae, af⟩ := frz2 i.out) | ((with_reducible refine Zav (f := 24) rfl ?_); refine Zbo (some 14) Tryd.func24 #[.slice m d.length n, .slice o g.length p] ?_; (with_reducible refine (Zbj.calls k _ _ d _ _ g true _ ?side1 ?side2 ?side3 ?side4 A4.out).mono ?_); (case side1 => exact cP (zF x.out HB.out)); (case side2 => exact y.out); (case side3 => exact cP (zF z.out HB.out)); (case side4 => exact A.out); rintro e w' ⟨rfl, ⟨nd, rfl⟩⟩; refine ⟨_, rfl, ?_⟩))
  go_ret
  exact ⟨eW, bW⟩
 replace c5 := Bool.eq_false_iff.mpr c5
 subst c5
 rw [iF] at H
 obtain rfl := oI H
 go_enter Tryd.func11, Tryd.ntmps11
 go_wp2_with (first | ((with_reducible refine Zap (N := 2) rfl ?_); refine boxS (N := 2) (cs := #[.int .i64 j, .slice m d.length n]) (t := 32) ?_; intro B hg aD hbox hb; have a := mA (hbox); have D := geW (w := w) hg; have E := geW (w := w) hg; replace HB := mA (Zac (bW) hb); clear hb hbox hg) | ((with_reducible refine Zap (N := 3) rfl ?_); refine boxS (N := 3) (cs := #[.int .i64 l, .slice o g.length p]) (t := 32) ?_; intro G hg aE hbox hb; have i := mA (hbox); have I := geW (w := w) hg; have J := geW (w := w) hg; replace HB := mA (Zac (bW) hb); have b := mA (neB hg a); have c := mA (neC hg a); replace a := mA (blkB a.out hb); clear hb hbox hg; have aw := b.out; have ax := c.out; obtain ⟨ag, ah⟩ := Zc6 a.out; obtain ⟨ai, aj⟩ := frz2 a.out; obtain ⟨ak, al⟩ := Zc6 i.out; obtain ⟨am, an⟩ := frz2 i.out) | ((with_reducible refine Zav (f := 24) rfl ?_); refine Zbo (some 14) Tryd.func24 #[.slice m d.length n, .slice o g.length p] ?_; (with_reducible refine (Zbj.calls k _ _ d _ _ g false _ ?side1 ?side2 ?side3 ?side4 A4.out).mono ?_); (case side1 => exact cP (zF x.out HB.out)); (case side2 => exact y.out); (case side3 => exact cP (zF z.out HB.out)); (case side4 => exact A.out); rintro e w' ⟨rfl, ⟨nd, rfl⟩⟩; refine ⟨_, rfl, ?_⟩))
 go_ret
 exact ⟨eW, bW⟩
def Zbu.l0 : Nat → List (List Int) → List (List Int) → Int → Option (Bool)
 | 0, _, _, _ => none
 | k + 1, x0, x1, x5 => if x5 < (x0.length : Int) then (if 0 ≤ x5 then (if x5 < (x1.length : Int) then ((Zbj.f k (Zae x0 x5) (Zae x1 x5)).bind fun a => (if a = true then (Zbu.l0 k x0 x1 (wrap64 (x5 + 1))) else (some false))) else (none)) else (none)) else (some true)
def Zbu.f (k : Nat) (l0 : List (List Int)) (l1 : List (List Int)) : Option (Bool) := if (l0.length : Int) = (l1.length : Int) then (Zbu.l0 k l0 l1 0) else (some false)
theorem Zbu.calls (k : Nat) (A0 : Option Addr) (c0 : Nat) (l0 : List (List Int)) (A1 : Option Addr) (c1 : Nat) (l1 : List (List Int)) (r : Bool) (w : World) (J : Kd.C (Kd.slice 2 (Kd.int .i64)) w A0 l0.length l0) (K : l0.length ≤ c0) (L : Kd.C (Kd.slice 2 (Kd.int .i64)) w A1 l1.length l1) (M : l1.length ≤ c1) (h : Zbu.f k l0 l1 = some r) :
  Calls Tryd.prog 25 #[.slice A0 l0.length c0, .slice A1 l1.length c1] w fun e w' => e = .returned (.bool r) ∧ Zar w w' := by
 have O := mA J
 have aa := mA K
 clear J K
 have P := mA L
 have ab := mA M
 clear L M
 unfold Zbu.f at h
 have H := h
 clear h
 by_cases c3 : (l0.length : Int) = (l1.length : Int); rotate_left
 ·rw [if_neg c3] at H
  have x : ((l0.length : Int) == (l1.length : Int)) = false := beq_eq_false_iff_ne.mpr c3
  have y : ((l0.length : Int) != (l1.length : Int)) = true := bne_iff_ne.mpr c3
  have z : (l0.length == l1.length) = false := by first | simpa using c3 | (simp at c3 ⊢; omega)
  obtain rfl := oI H
  go_enter Tryd.func25, Tryd.ntmps25
  go_wp2
  repeat (go_quiet (fail); try go_wp2)
  go_ret
  exact ⟨eW, by repeat (first | exact Zar.refl _ | apply Zar.step)⟩
 rw [if_pos c3] at H
 have x : ((l0.length : Int) == (l1.length : Int)) = true := beq_iff_eq.mpr c3
 have y : ((l0.length : Int) != (l1.length : Int)) = false := bne_eq_false_iff_eq.mpr c3
 have z : (l0.length == l1.length) = true := by first | simpa using c3 | (simp at c3 ⊢; omega)
 clear c3
 have H' := mA H
 clear H
 go_enter Tryd.func25, Tryd.ntmps25
 go_wp2
 repeat (go_quiet (fail); try go_wp2)
 go_loopg [5] k (fun kq v5 w' => ∃ (a : Int), v5 = .int .i64 a ∧ Zaa (Zbu.l0 kq l0 l1 a = some r) ∧ Zaa (kq ≤ k) ∧ Zar w w')
 case atStart => exact ⟨(0), (eW), H', ⟨Nat.le_refl _⟩, by repeat (first | exact Zar.refl _ | apply Zar.step)⟩
 case round =>
  clear H' x y z
  obtain ⟨a, rfl, HA, HK1, ⟨m1, rfl⟩⟩ := hrel
  cases gk with
  | zero => exact absurd HA.out (by simp [Zbu.l0])
  | succ k1 =>
   have H := HA.out
   clear HA
   simp only [Zbu.l0] at H
   by_cases c4 : a < (l0.length : Int); rotate_left
   ·rw [if_neg c4] at H
    have U := dF c4
    clear c4
    obtain rfl := oI H
    go_wp2
    repeat (go_quiet (fail); try go_wp2)
    go_ret
    exact ⟨eW, by repeat (first | exact Zar.refl _ | apply Zar.step)⟩
   rw [if_pos c4] at H
   have U := dT c4
   clear c4
   by_cases c5 : 0 ≤ a; rotate_left
   ·rw [if_neg c5] at H
    exact absurd H (by simp)
   rw [if_pos c5] at H
   have X := dT c5
   clear c5
   by_cases c6 : a < (l1.length : Int); rotate_left
   ·rw [if_neg c6] at H
    exact absurd H (by simp)
   rw [if_pos c6] at H
   have Y := dT c6
   clear c6
   replace H := bE H
   obtain ⟨W, T, H⟩ := H
   have A7 := mA T
   clear T
   by_cases c8 : W = true; rotate_left
   ·replace c8 := Bool.eq_false_iff.mpr c8
    subst c8
    rw [iF] at H
    obtain rfl := oI H
    have n : 0 ≤ (a : Int) := ofD
    have o : a < (l0.length : Int) := ofD
    obtain ⟨G, A, B, s, u, i, j⟩ := Zch O.out a n o
    cases s
    have b := mA j
    have c := mA i
    clear j i
    replace n := eq_true n
    replace o := eq_true o
    have p : 0 ≤ (a : Int) := ofD
    have q : a < (l1.length : Int) := ofD
    obtain ⟨I, D, E, t, v, l, m⟩ := Zch P.out a p q
    cases t
    have d := mA m
    have g := mA l
    clear m l
    replace p := eq_true p
    replace q := eq_true q
    go_wp2_with (first | (go_at_call 24; (with_reducible refine (Zbj.calls k1 _ _ (Zae l0 a) _ _ (Zae l1 a) false _ ?side1 ?side2 ?side3 ?side4 A7.out).mono ?_); (case side1 => exact cP b.out); (case side2 => exact c.out); (case side3 => exact cP d.out); (case side4 => exact g.out); rintro e w' ⟨rfl, ⟨nd, rfl⟩⟩; (try first | exact dwD | exact dwE)))
    repeat (go_quiet (first | (go_at_call 24; (with_reducible refine (Zbj.calls k1 _ _ (Zae l0 a) _ _ (Zae l1 a) false _ ?side1 ?side2 ?side3 ?side4 A7.out).mono ?_); (case side1 => exact cP b.out); (case side2 => exact c.out); (case side3 => exact cP d.out); (case side4 => exact g.out); rintro e w' ⟨rfl, ⟨nd, rfl⟩⟩; (try first | exact dwD | exact dwE))); try go_wp2_with (first | (go_at_call 24; (with_reducible refine (Zbj.calls k1 _ _ (Zae l0 a) _ _ (Zae l1 a) false _ ?side1 ?side2 ?side3 ?side4 A7.out).mono ?_); (case side1 => exact cP b.out); (case side2 => exact c.out); (case side3 => exact cP d.out); (case side4 => exact g.out); rintro e w' ⟨rfl, ⟨nd, rfl⟩⟩; (try first | exact dwD | exact dwE))))
    go_ret
    exact ⟨eW, by repeat (first | exact Zar.refl _ | apply Zar.step)⟩
   subst c8
   rw [if_pos rfl] at H
   have H' := mA H
   clear H
   have n : 0 ≤ (a : Int) := ofD
   have o : a < (l0.length : Int) := ofD
   obtain ⟨G, A, B, s, u, i, j⟩ := Zch O.out a n o
   cases s
   have b := mA j
   have c := mA i
   clear j i
   replace n := eq_true n
   replace o := eq_true o
   have p : 0 ≤ (a : Int) := ofD
   have q : a < (l1.length : Int) := ofD
   obtain ⟨I, D, E, t, v, l, m⟩ := Zch P.out a p q
   cases t
   have d := mA m
   have g := mA l
   clear m l
   replace p := eq_true p
   replace q := eq_true q
   go_wp2_with (first | (go_at_call 24; (with_reducible refine (Zbj.calls k1 _ _ (Zae l0 a) _ _ (Zae l1 a) true _ ?side1 ?side2 ?side3 ?side4 A7.out).mono ?_); (case side1 => exact cP b.out); (case side2 => exact c.out); (case side3 => exact cP d.out); (case side4 => exact g.out); rintro e w' ⟨rfl, ⟨nd, rfl⟩⟩; (try first | exact dwD | exact dwE)))
   repeat (go_quiet (first | (go_at_call 24; (with_reducible refine (Zbj.calls k1 _ _ (Zae l0 a) _ _ (Zae l1 a) true _ ?side1 ?side2 ?side3 ?side4 A7.out).mono ?_); (case side1 => exact cP b.out); (case side2 => exact c.out); (case side3 => exact cP d.out); (case side4 => exact g.out); rintro e w' ⟨rfl, ⟨nd, rfl⟩⟩; (try first | exact dwD | exact dwE))); try go_wp2_with (first | (go_at_call 24; (with_reducible refine (Zbj.calls k1 _ _ (Zae l0 a) _ _ (Zae l1 a) true _ ?side1 ?side2 ?side3 ?side4 A7.out).mono ?_); (case side1 => exact cP b.out); (case side2 => exact c.out); (case side3 => exact cP d.out); (case side4 => exact g.out); rintro e w' ⟨rfl, ⟨nd, rfl⟩⟩; (try first | exact dwD | exact dwE))))
   go_roundg k1
   case measure => have := HK1.out; omega
   case rel => exact ⟨(wrap64 (a + 1)), (eW), H', ⟨by have := HK1.out; omega⟩, by repeat (first | exact Zar.refl _ | apply Zar.step)⟩
end Go.Proofs.YtgindgodfcfgkaaDoor.P
end M1
section M2
namespace Go.Proofs.YtgindgodfcfgkaaDoor.P
open Go.RowKit Go.Proofs.YtgindgodfcfgkaaDoor.Sh Go.Proofs.YtgindgodfcfgkaaDoorW.PrintWords Go.Proofs.YtgindgodfcfgkaaDoorW.PrintLast Go.Proofs.YtgindgodfcfgkaaDoorW.PrintMore
open Kd
attribute [local go_sem] Zcd Zca Zcn Zcm Zb1 Zb2 Zcc Zce   -- for this text's walks alone
set_option linter.unusedVariables false
set_option linter.unusedSimpArgs false
def Zc8.f (k : Nat) (a : Int) (b : Int) (c : Int) (d : List (List Int)) (e : Int) (g : Int) (h : Int) (i : List (List Int)) : Option (Bool) := if a = e then (if b = g then (if c = h then ((Zbu.f k d i).bind fun j => (if j = true then (some true) else (some false))) else (some false)) else (some false)) else (some false)
theorem Zc8.calls (k : Nat) (j : Int) (l : Int) (m : Int) (q : Option Addr) (s : Nat) (g : List (List Int)) (n : Int) (o : Int) (p : Int) (u : Option Addr) (v : Nat) (i : List (List Int)) (r : Bool) (w : World) (E : Kd.C (Kd.slice 2 (Kd.int .i64)) w q g.length g) (G : g.length ≤ s) (I : Kd.C (Kd.slice 2 (Kd.int .i64)) w u i.length i) (J : i.length ≤ v) (h : Zc8.f k j l m g n o p i = some r) :
  Calls Tryd.prog 12 #[.agg #[.int .i64 j, .int .i64 l, .int .i64 m, .slice q g.length s], .agg #[.int .i64 n, .int .i64 o, .int .i64 p, .slice u i.length v]] w fun e w' => e = .returned (.bool r) ∧ Below w.heap.size w w' := by
 have bK := Tryd.underlying34
 have K := mA E
 have L := mA G
 clear E G
 have M := mA I
 have O := mA J
 clear I J
 have HB := mA (Below.refl w.heap.size w)
 unfold Zc8.f at h
 have H := h
 clear h
 by_cases c3 : j = n; rotate_left
 ·rw [if_neg c3] at H
  have T : (j == n) = false := beq_eq_false_iff_ne.mpr c3
  have U : (j != n) = true := bne_iff_ne.mpr c3
  obtain rfl := oI H
  go_enter Tryd.func12, Tryd.ntmps12
  go_wp2_with (first | ((with_reducible refine Zap (N := 2) rfl ?_); refine boxS (N := 2) (cs := #[.int .i64 j, .int .i64 l, .int .i64 m, .slice q g.length s]) (t := 34) ?_; intro x hg bL hbox hb; have a := mA (hbox); have y := geW (w := w) hg; have z := geW (w := w) hg; replace HB := mA (Zac (bW) hb); clear hb hbox hg) | ((with_reducible refine Zap (N := 3) rfl ?_); refine boxS (N := 3) (cs := #[.int .i64 n, .int .i64 o, .int .i64 p, .slice u i.length v]) (t := 34) ?_; intro A hg bM hbox hb; have d := mA (hbox); have B := geW (w := w) hg; have D := geW (w := w) hg; replace HB := mA (Zac (bW) hb); have b := mA (neB hg a); have c := mA (neC hg a); replace a := mA (blkB a.out hb); clear hb hbox hg; have bz := b.out; have bA := c.out; obtain ⟨ac, ad, ae, af⟩ := Zbi a.out; obtain ⟨ag, ah, ai, aj⟩ := frz4 a.out; obtain ⟨ak, al, am, an⟩ := Zbi d.out; obtain ⟨ao, ap, aq, ar⟩ := frz4 d.out))
  go_ret
  exact ⟨eW, bW⟩
 rw [if_pos c3] at H
 have T : (j == n) = true := beq_iff_eq.mpr c3
 have U : (j != n) = false := bne_eq_false_iff_eq.mpr c3
 clear c3
 by_cases c4 : l = o; rotate_left
 ·rw [if_neg c4] at H
  have W : (l == o) = false := beq_eq_false_iff_ne.mpr c4
  have X : (l != o) = true := bne_iff_ne.mpr c4
  obtain rfl := oI H
  go_enter Tryd.func12, Tryd.ntmps12
  go_wp2_with (first | ((with_reducible refine Zap (N := 2) rfl ?_); refine boxS (N := 2) (cs := #[.int .i64 j, .int .i64 l, .int .i64 m, .slice q g.length s]) (t := 34) ?_; intro x hg bN hbox hb; have a := mA (hbox); have y := geW (w := w) hg; have z := geW (w := w) hg; replace HB := mA (Zac (bW) hb); clear hb hbox hg) | ((with_reducible refine Zap (N := 3) rfl ?_); refine boxS (N := 3) (cs := #[.int .i64 n, .int .i64 o, .int .i64 p, .slice u i.length v]) (t := 34) ?_; intro A hg bO hbox hb; have d := mA (hbox); have B := geW (w := w) hg; have D := geW (w := w) hg; replace HB := mA (Zac (bW) hb); have b := mA (neB hg a); have c := mA (neC hg a); replace a := mA (blkB a.out hb); clear hb hbox hg; have bB := b.out; have bC := c.out; obtain ⟨au, av, aw, ax⟩ := Zbi a.out; obtain ⟨ay, az, aA, aB⟩ := frz4 a.out; obtain ⟨aC, aD, aE, aF⟩ := Zbi d.out; obtain ⟨aG, aH, aI, aJ⟩ := frz4 d.out))
  go_ret
  exact ⟨eW, bW⟩
 rw [if_pos c4] at H
 have W : (l == o) = true := beq_iff_eq.mpr c4
 have X : (l != o) = false := bne_eq_false_iff_eq.mpr c4
 clear c4
 by_cases c5 : m = p; rotate_left
 ·rw [if_neg c5] at H
  have Y : (m == p) = false := beq_eq_false_iff_ne.mpr c5
  have aa : (m != p) = true := bne_iff_ne.mpr c5
  obtain rfl := oI H
  go_enter Tryd.func12, Tryd.ntmps12
  go_wp2_with (first | ((with_reducible refine Zap (N := 2) rfl ?_); refine boxS (N := 2) (cs := #[.int .i64 j, .int .i64 l, .int .i64 m, .slice q g.length s]) (t := 34) ?_; intro x hg bQ hbox hb; have a := mA (hbox); have y := geW (w := w) hg; have z := geW (w := w) hg; replace HB := mA (Zac (bW) hb); clear hb hbox hg) | ((with_reducible refine Zap (N := 3) rfl ?_); refine boxS (N := 3) (cs := #[.int .i64 n, .int .i64 o, .int .i64 p, .slice u i.length v]) (t := 34) ?_; intro A hg bR hbox hb; have d := mA (hbox); have B := geW (w := w) hg; have D := geW (w := w) hg; replace HB := mA (Zac (bW) hb); have b := mA (neB hg a); have c := mA (neC hg a); replace a := mA (blkB a.out hb); clear hb hbox hg; have bD := b.out; have bF := c.out; obtain ⟨aK, aL, aM, aN⟩ := Zbi a.out; obtain ⟨aO, aP, aQ, aR⟩ := frz4 a.out; obtain ⟨aS, aT, aU, aV⟩ := Zbi d.out; obtain ⟨aW, aX, aY, aZ⟩ := frz4 d.out))
  go_ret
  exact ⟨eW, bW⟩
 rw [if_pos c5] at H
 have Y : (m == p) = true := beq_iff_eq.mpr c5
 have aa : (m != p) = false := bne_eq_false_iff_eq.mpr c5
 clear c5
 replace H := bE H
 obtain ⟨ab, P, H⟩ := H
 have A6 := mA P
 clear P
 by_cases c7 : ab = true
 ·subst c7
  rw [if_pos rfl] at H
  obtain rfl := oI H
  go_enter Tryd.func12, Tryd.ntmps12
  go_wp2_with (first | ((with_reducible refine Zap (N := 2) rfl ?_); refine boxS (N := 2) (cs := #[.int .i64 j, .int .i64 l, .int .i64 m, .slice q g.length s]) (t := 34) ?_; intro x hg w8 hbox hb; have a := mA (hbox); have y := geW (w := w) hg; have z := geW (w := w) hg; replace HB := mA (Zac (bW) hb); clear hb hbox hg) | ((with_reducible refine Zap (N := 3) rfl ?_); refine boxS (N := 3) (cs := #[.int .i64 n, .int .i64 o, .int .i64 p, .slice u i.length v]) (t := 34) ?_; intro A hg w9 hbox hb; have d := mA (hbox); have B := geW (w := w) hg; have D := geW (w := w) hg; replace HB := mA (Zac (bW) hb); have b := mA (neB hg a); have c := mA (neC hg a); replace a := mA (blkB a.out hb); clear hb hbox hg; have bG := b.out; have bH := c.out; obtain ⟨a0, a1, a2, a3⟩ := Zbi a.out; obtain ⟨a4, a5, a6, a7⟩ := frz4 a.out; obtain ⟨a8, a9, ba, bb⟩ := Zbi d.out; obtain ⟨bc, bd, bf, bg⟩ := frz4 d.out) | ((with_reducible refine Zav (f := 25) rfl ?_); refine Zbo (some 24) Tryd.func25 #[.slice q g.length s, .slice u i.length v] ?_; (with_reducible refine (Zbu.calls k _ _ g _ _ i true _ ?side1 ?side2 ?side3 ?side4 A6.out).mono ?_); (case side1 => exact cP (zF K.out HB.out)); (case side2 => exact L.out); (case side3 => exact cP (zF M.out HB.out)); (case side4 => exact O.out); rintro e w' ⟨rfl, ⟨nd, rfl⟩⟩; refine ⟨_, rfl, ?_⟩))
  go_ret
  exact ⟨eW, bW⟩
 replace c7 := Bool.eq_false_iff.mpr c7
 subst c7
 rw [iF] at H
 obtain rfl := oI H
 go_enter Tryd.func12, Tryd.ntmps12
 go_wp2_with (first | ((with_reducible refine Zap (N := 2) rfl ?_); refine boxS (N := 2) (cs := #[.int .i64 j, .int .i64 l, .int .i64 m, .slice q g.length s]) (t := 34) ?_; intro x hg bS hbox hb; have a := mA (hbox); have y := geW (w := w) hg; have z := geW (w := w) hg; replace HB := mA (Zac (bW) hb); clear hb hbox hg) | ((with_reducible refine Zap (N := 3) rfl ?_); refine boxS (N := 3) (cs := #[.int .i64 n, .int .i64 o, .int .i64 p, .slice u i.length v]) (t := 34) ?_; intro A hg bT hbox hb; have d := mA (hbox); have B := geW (w := w) hg; have D := geW (w := w) hg; replace HB := mA (Zac (bW) hb); have b := mA (neB hg a); have c := mA (neC hg a); replace a := mA (blkB a.out hb); clear hb hbox hg; have bI := b.out; have bJ := c.out; obtain ⟨bh, bi, bj, bk⟩ := Zbi a.out; obtain ⟨bl, bm, bn, bo⟩ := frz4 a.out; obtain ⟨bp, bq, br, bs⟩ := Zbi d.out; obtain ⟨bu, bv, bw, bx⟩ := frz4 d.out) | ((with_reducible refine Zav (f := 25) rfl ?_); refine Zbo (some 24) Tryd.func25 #[.slice q g.length s, .slice u i.length v] ?_; (with_reducible refine (Zbu.calls k _ _ g _ _ i false _ ?side1 ?side2 ?side3 ?side4 A6.out).mono ?_); (case side1 => exact cP (zF K.out HB.out)); (case side2 => exact L.out); (case side3 => exact cP (zF M.out HB.out)); (case side4 => exact O.out); rintro e w' ⟨rfl, ⟨nd, rfl⟩⟩; refine ⟨_, rfl, ?_⟩))
 go_ret
 exact ⟨eW, bW⟩
end Go.Proofs.YtgindgodfcfgkaaDoor.P
end M2
section M3
namespace Go.Proofs.YtgindgodfcfgkaaDoor.P
open Go.RowKit Go.Proofs.YtgindgodfcfgkaaDoor.Sh Go.Proofs.YtgindgodfcfgkaaDoorW.PrintWords Go.Proofs.YtgindgodfcfgkaaDoorW.PrintLast Go.Proofs.YtgindgodfcfgkaaDoorW.PrintMore
open Kd
attribute [local go_sem] Zcd Zca Zcn Zcm Zb1 Zb2 Zcc Zce   -- for this text's walks alone
set_option linter.unusedVariables false
set_option linter.unusedSimpArgs false
def Zb8.l0 : Nat → List Int → Int → Int → Int → Int → List (List Int) → Option (List Int)
 | 0, _, _, _, _, _, _ => none
 | k + 1, x3, x4, a, b, c, d => (Zbr.f a b c d).bind fun e => (if x4 < e then (if x3.length < 17592186044416 then (Zb8.l0 k (x3 ++ [x4]) (wrap64 (x4 + 1)) a b c d) else (none)) else (some x3))
def Zb8.f (k : Nat) (a : Int) (b : Int) (c : Int) (d : List (List Int)) : Option (List Int) := Zb8.l0 k (([] : List Int)) 0 a b c d
theorem Zb8.calls (k : Nat) (d : Int) (i : Int) (j : Int) (m : Option Addr) (n : Nat) (c : List (List Int)) (r : List Int) (w : World) (z : Kd.C (Kd.slice 2 (Kd.int .i64)) w m c.length c) (A : c.length ≤ n) (h : Zb8.f k d i j c = some r) :
  Calls Tryd.prog 27 #[.agg #[.int .i64 d, .int .i64 i, .int .i64 j, .slice m c.length n]] w fun e w' => ∃ L : Value, e = .returned (L) ∧ Kd.R (Kd.int .i64) 2 w' w.heap.size (fun _ => True) L r ∧ Below w.heap.size w w' := by
 have ap := Tryd.underlying34
 have B := mA z
 have D := mA A
 clear z A
 have HB := mA (Below.refl w.heap.size w)
 unfold Zb8.f at h
 have H := h
 clear h
 obtain ⟨G, u⟩ : ∃ y_ : List Int, y_ = (([] : List Int)) := ⟨_, rfl⟩
 replace H : (Zb8.l0 k G 0 d i j c) = some r := by rw [u]; with_reducible exact H
 have E := mA u
 clear u
 have H' := mA H
 clear H
 go_enter Tryd.func27, Tryd.ntmps27
 go_wp2_with (first | ((with_reducible refine Zap (N := 1) rfl ?_); refine boxS (N := 1) (cs := #[.int .i64 d, .int .i64 i, .int .i64 j, .slice m c.length n]) (t := 34) ?_; intro l hg w2 hbox hb; have a := mA (hbox); have an := geW (w := w) hg; have ao := geW (w := w) hg; replace HB := mA (Zac (bW) hb); clear hb hbox hg) | ((with_reducible refine Zap (N := 5) rfl ?_); refine yT (Kd.int .i64) _ 2 ?hg (N := 5) ?hd (xs := ([] : List Int)) (inner := []) (ok := fun _ => True) (okp := fun _ => True) ?hr ?hp (fun _ hk => hk) trivial (Below.refl _ _) (Nat.le_refl _) (by simp) ?_; (case hd => rfl); (case hg => rfl); (case hr => first | (go_simp; done) | (go_simp; rfl)); (case hp => exact (Reps.none _ _)); intro aq w3 x hb hg_ hnew_; clear hg_ hnew_; (first | rw [← E.out] at x | (simp only [Int.reduceToNat] at x; rw [← E.out] at x)); have I := mA (zP x (Zag (bW))); replace a := mA (blkB a.out hb); replace HB := mA (Zac (bW) hb); clear hb x))
 go_loopg [3, 4] k (fun kq v3 v4 w' => ∃ (s : List Int) (p : Int), v4 = .int .i64 p ∧ Zaa (Zb8.l0 kq s p d i j c = some r) ∧ Zaa (kq ≤ k) ∧ Zaa (Kd.R (Kd.int .i64) 2 w' w.heap.size (fun _ => True) v3 s) ∧ Zaa (w'.heap[l]? = some (.cells #[.int .i64 d, .int .i64 i, .int .i64 j, (.slice m c.length n)] 34 (0, 0))) ∧ Zaa (Below w.heap.size w w'))
 case atStart => exact ⟨(G), (0), (eW), H', ⟨Nat.le_refl _⟩, ⟨rP I.out⟩, ⟨bP a.out⟩, ⟨bW⟩⟩
 case round =>
  clear H'
  obtain ⟨s, p, rfl, HA, M, q, a, HB⟩ := hrel
  cases gk with
  | zero => exact absurd HA.out (by simp [Zb8.l0])
  | succ k1 =>
   have H := HA.out
   clear HA
   simp only [Zb8.l0] at H
   replace H := bE H
   obtain ⟨y, O, H⟩ := H
   have A5 := mA O
   clear O
   by_cases c6 : p < y; rotate_left
   ·rw [if_neg c6] at H
    have P := dF c6
    clear c6
    obtain rfl := oI H
    have W : wr.cell? ⟨l, 0, none⟩ = some (.int .i64 d) := bc a 0
    have X : wr.cell? ⟨l, 1, none⟩ = some (.int .i64 i) := bc a 1
    have Y : wr.cell? ⟨l, 2, none⟩ = some (.int .i64 j) := bc a 2
    have aa : wr.cell? ⟨l, 3, none⟩ = some (.slice m c.length n) := bc a 3
    have ab := Zab a.out 0
    have ac := Zab a.out 1
    have ad := Zab a.out 2
    have ae := Zab a.out 3
    go_wp2_with (first | ((with_reducible refine Zav (f := 48) rfl ?_); refine Zbo (some 8) Tryd.func48 #[.agg #[.int .i64 d, .int .i64 i, .int .i64 j, .slice m c.length n]] ?_; (with_reducible refine (Zbr.calls d i j _ _ c y _ ?side1 ?side2 A5.out).mono ?_); (case side1 => exact cP (zF B.out HB.out)); (case side2 => exact D.out); rintro e au ⟨rfl, hb⟩; refine ⟨_, rfl, ?_⟩; replace q := mA (zK (rP q.out) hb); replace a := mA (blkB a.out hb); replace HB := mA (Zac (bW) hb); (try clear hb); (try clear hb2); (try clear hk); (try clear hi)))
    go_ret
    exact ⟨_, eW, (rP q.out), bW⟩
   rw [if_pos c6] at H
   have P := dT c6
   clear c6
   by_cases c7 : s.length < 17592186044416; rotate_left
   ·rw [if_neg c7] at H
    exact absurd H (by simp)
   rw [if_pos c7] at H
   have T := mA c7
   clear c7
   obtain ⟨U, v⟩ : ∃ y_ : List Int, y_ = (s ++ [p]) := ⟨_, rfl⟩
   rw [← v] at H
   have J := mA v
   clear v
   have H' := mA H
   clear H
   have af : wr.cell? ⟨l, 0, none⟩ = some (.int .i64 d) := bc a 0
   have ag : wr.cell? ⟨l, 1, none⟩ = some (.int .i64 i) := bc a 1
   have ah : wr.cell? ⟨l, 2, none⟩ = some (.int .i64 j) := bc a 2
   have ai : wr.cell? ⟨l, 3, none⟩ = some (.slice m c.length n) := bc a 3
   have aj := Zab a.out 0
   have ak := Zab a.out 1
   have al := Zab a.out 2
   have am := Zab a.out 3
   go_wp2_with (first | ((with_reducible refine Zav (f := 48) rfl ?_); refine Zbo (some 8) Tryd.func48 #[.agg #[.int .i64 d, .int .i64 i, .int .i64 j, .slice m c.length n]] ?_; (with_reducible refine (Zbr.calls d i j _ _ c y _ ?side1 ?side2 A5.out).mono ?_); (case side1 => exact cP (zF B.out HB.out)); (case side2 => exact D.out); rintro e w9 ⟨rfl, hb⟩; refine ⟨_, rfl, ?_⟩; replace q := mA (zK (rP q.out) hb); replace a := mA (blkB a.out hb); replace HB := mA (Zac (bW) hb); (try clear hb); (try clear hb2); (try clear hk); (try clear hi)) | ((with_reducible refine Zbl (b := .append) (xs := #[.tmp 12, .tmp 14]) rfl ?_); at_builtin; refine xI (Kd.int .i64) (w0 := w) w.heap.size rfl (.tmp 12) (.tmp 14) 22 2 (.int .i64 0) 8 rfl Tryd.underlying22 info2 rfl (by decide) (by omega) u3 s p [.int .i64 p] (fun _ => True) (fun _ => False) rfl rfl ?aP (fun _ hk => hk.elim) ?aF ?aO ?aB ?aS ?aL ?_; (case aP => exact rfl); (case aB => exact (bW)); (case aF => exact (fun _ _ => trivial)); (case aO => exact (rP q.out)); (case aS => exact (Zag (bW))); (case aL => have := T.out; omega); intro ar av ho hb hg hat; rw [← J.out] at ho; replace a := mA (Zaq (g := l) (o := .cells #[.int .i64 d, .int .i64 i, .int .i64 j, .slice m c.length n] 34 (0, 0)) (bP a.out) hg (zO q.out a.out (by decide))); replace HB := mA (hb); have K := mA (ho); clear q ho hb hg hat))
   go_roundg k1
   case measure => have := M.out; omega
   case rel => exact ⟨(U), (wrap64 (p + 1)), (eW), H', ⟨by have := M.out; omega⟩, ⟨rP K.out⟩, ⟨bP a.out⟩, ⟨bW⟩⟩
def Zb9.l0 : Nat → List Int → List Int → Int → Option (Bool)
 | 0, _, _, _ => none
 | k + 1, x0, x1, x5 => if x5 < (x0.length : Int) then (if 0 ≤ x5 then (if x5 < (x1.length : Int) then (if (rd x0 x5) = (rd x1 x5) then (Zb9.l0 k x0 x1 (wrap64 (x5 + 1))) else (some false)) else (none)) else (none)) else (some true)
def Zb9.f (k : Nat) (l0 : List Int) (l1 : List Int) : Option (Bool) := if (l0.length : Int) = (l1.length : Int) then (Zb9.l0 k l0 l1 0) else (some false)
theorem Zb9.calls (k : Nat) (A0 : Option Addr) (c0 : Nat) (l0 : List Int) (A1 : Option Addr) (c1 : Nat) (l1 : List Int) (r : Bool) (w : World) (t : Kd.C (Kd.int .i64) w A0 l0.length l0) (u : l0.length ≤ c0) (v : Kd.C (Kd.int .i64) w A1 l1.length l1) (x : l1.length ≤ c1) (h : Zb9.f k l0 l1 = some r) :
  Calls Tryd.prog 29 #[.slice A0 l0.length c0, .slice A1 l1.length c1] w fun e w' => e = .returned (.bool r) ∧ Zar w w' := by
 have y := mA t
 have I := mA u
 clear t u
 have z := mA v
 have J := mA x
 clear v x
 unfold Zb9.f at h
 have H := h
 clear h
 by_cases c3 : (l0.length : Int) = (l1.length : Int); rotate_left
 ·rw [if_neg c3] at H
  have n : ((l0.length : Int) == (l1.length : Int)) = false := beq_eq_false_iff_ne.mpr c3
  have o : ((l0.length : Int) != (l1.length : Int)) = true := bne_iff_ne.mpr c3
  have p : (l0.length == l1.length) = false := by first | simpa using c3 | (simp at c3 ⊢; omega)
  obtain rfl := oI H
  go_enter Tryd.func29, Tryd.ntmps29
  go_wp2
  repeat (go_quiet (fail); try go_wp2)
  go_ret
  exact ⟨eW, by repeat (first | exact Zar.refl _ | apply Zar.step)⟩
 rw [if_pos c3] at H
 have n : ((l0.length : Int) == (l1.length : Int)) = true := beq_iff_eq.mpr c3
 have o : ((l0.length : Int) != (l1.length : Int)) = false := bne_eq_false_iff_eq.mpr c3
 have p : (l0.length == l1.length) = true := by first | simpa using c3 | (simp at c3 ⊢; omega)
 clear c3
 have H' := mA H
 clear H
 go_enter Tryd.func29, Tryd.ntmps29
 go_wp2
 repeat (go_quiet (fail); try go_wp2)
 go_loopg [5] k (fun kq v5 w' => ∃ (a : Int), v5 = .int .i64 a ∧ Zaa (Zb9.l0 kq l0 l1 a = some r) ∧ Zaa (kq ≤ k) ∧ Zar w w')
 case atStart => exact ⟨(0), (eW), H', ⟨Nat.le_refl _⟩, by repeat (first | exact Zar.refl _ | apply Zar.step)⟩
 case round =>
  clear H' n o p
  obtain ⟨a, rfl, HA, HK1, ⟨m1, rfl⟩⟩ := hrel
  cases gk with
  | zero => exact absurd HA.out (by simp [Zb9.l0])
  | succ k1 =>
   have H := HA.out
   clear HA
   simp only [Zb9.l0] at H
   by_cases c4 : a < (l0.length : Int); rotate_left
   ·rw [if_neg c4] at H
    have A := dF c4
    clear c4
    obtain rfl := oI H
    go_wp2
    repeat (go_quiet (fail); try go_wp2)
    go_ret
    exact ⟨eW, by repeat (first | exact Zar.refl _ | apply Zar.step)⟩
   rw [if_pos c4] at H
   have A := dT c4
   clear c4
   by_cases c5 : 0 ≤ a; rotate_left
   ·rw [if_neg c5] at H
    exact absurd H (by simp)
   rw [if_pos c5] at H
   have E := dT c5
   clear c5
   by_cases c6 : a < (l1.length : Int); rotate_left
   ·rw [if_neg c6] at H
    exact absurd H (by simp)
   rw [if_pos c6] at H
   have G := dT c6
   clear c6
   by_cases c7 : (rd l0 a) = (rd l1 a); rotate_left
   ·rw [if_neg c7] at H
    have B : ((rd l0 a) == (rd l1 a)) = false := beq_eq_false_iff_ne.mpr c7
    have D : ((rd l0 a) != (rd l1 a)) = true := bne_iff_ne.mpr c7
    obtain rfl := oI H
    have b : 0 ≤ (a : Int) := ofD
    have c : a < (l0.length : Int) := ofD
    obtain ⟨q, i, l⟩ := zI y.out a b c
    cases i
    replace b := eq_true b
    replace c := eq_true c
    have d : 0 ≤ (a : Int) := ofD
    have g : a < (l1.length : Int) := ofD
    obtain ⟨s, j, m⟩ := zI z.out a d g
    cases j
    replace d := eq_true d
    replace g := eq_true g
    go_wp2
    repeat (go_quiet (fail); try go_wp2)
    go_ret
    exact ⟨eW, by repeat (first | exact Zar.refl _ | apply Zar.step)⟩
   rw [if_pos c7] at H
   have B : ((rd l0 a) == (rd l1 a)) = true := beq_iff_eq.mpr c7
   have D : ((rd l0 a) != (rd l1 a)) = false := bne_eq_false_iff_eq.mpr c7
   clear c7
   have H' := mA H
   clear H
   have b : 0 ≤ (a : Int) := ofD
   have c : a < (l0.length : Int) := ofD
   obtain ⟨q, i, l⟩ := zI y.out a b c
   cases i
   replace b := eq_true b
   replace c := eq_true c
   have d : 0 ≤ (a : Int) := ofD
   have g : a < (l1.length : Int) := ofD
   obtain ⟨s, j, m⟩ := zI z.out a d g
   cases j
   replace d := eq_true d
   replace g := eq_true g
   go_wp2
   repeat (go_quiet (fail); try go_wp2)
   go_roundg k1
   case measure => have := HK1.out; omega
   case rel => exact ⟨(wrap64 (a + 1)), (eW), H', ⟨by have := HK1.out; omega⟩, by repeat (first | exact Zar.refl _ | apply Zar.step)⟩
def Zbg.l0 : Nat → List Int → Int → List Int → Int → Int → Int → Int → List (List Int) → Option (List Int)
 | 0, _, _, _, _, _, _, _, _ => none
 | k + 1, x1, x2, x7, x8, b, c, d, a => if x8 < (x1.length : Int) then (if 0 ≤ x8 then (if (rd x1 x8) ≥ 0 then (if 0 ≤ (rd x1 x8) then (if (rd x1 x8) < (a.length : Int) then (if 0 ≤ x2 then (if x2 < ((Zae a (rd x1 x8)).length : Int) then (if x7.length < 17592186044416 then (Zbg.l0 k x1 x2 (x7 ++ [rd (Zae a (rd x1 x8)) x2]) (wrap64 (x8 + 1)) b c d a) else (none)) else (none)) else (none)) else (none)) else (none)) else (if x7.length < 17592186044416 then (Zbg.l0 k x1 x2 (x7 ++ [rd x1 x8]) (wrap64 (x8 + 1)) b c d a) else (none))) else (none)) else (some x7)
def Zbg.f (k : Nat) (a : Int) (b : Int) (c : Int) (d : List (List Int)) (l1 : List Int) (a2 : Int) : Option (List Int) := Zbg.l0 k l1 a2 (([] : List Int)) 0 a b c d
theorem Zbg.calls (k : Nat) (j : Int) (l : Int) (m : Int) (x : Option Addr) (q : Nat) (d : List (List Int)) (A1 : Option Addr) (c1 : Nat) (l1 : List Int) (a2 : Int) (r : List Int) (w : World) (P : Kd.C (Kd.slice 2 (Kd.int .i64)) w x d.length d) (T : d.length ≤ q) (ap : Kd.C (Kd.int .i64) w A1 l1.length l1) (aq : l1.length ≤ c1) (h : Zbg.f k j l m d l1 a2 = some r) :
  Calls Tryd.prog 30 #[.agg #[.int .i64 j, .int .i64 l, .int .i64 m, .slice x d.length q], .slice A1 l1.length c1, .int .i64 a2] w fun e w' => ∃ ar : Value, e = .returned (ar) ∧ Kd.R (Kd.int .i64) 2 w' w.heap.size (fun _ => True) ar r ∧ Below w.heap.size w w' := by
 have a0 := Tryd.underlying34
 have af := mA P
 have aR := mA T
 clear P T
 have au := mA ap
 have a6 := mA aq
 clear ap aq
 have HB := mA (Below.refl w.heap.size w)
 unfold Zbg.f at h
 have H := h
 clear h
 obtain ⟨ae, D⟩ : ∃ y_ : List Int, y_ = (([] : List Int)) := ⟨_, rfl⟩
 replace H : (Zbg.l0 k l1 a2 ae 0 j l m d) = some r := by rw [D]; with_reducible exact H
 have U := mA D
 clear D
 have H' := mA H
 clear H
 go_enter Tryd.func30, Tryd.ntmps30
 go_wp2_with (first | ((with_reducible refine Zap (N := 3) rfl ?_); refine boxS (N := 3) (cs := #[.int .i64 j, .int .i64 l, .int .i64 m, .slice x d.length q]) (t := 34) ?_; intro n hg w4 hbox hb; have c := mA (hbox); have aT := geW (w := w) hg; have aU := geW (w := w) hg; replace HB := mA (Zac (bW) hb); clear hb hbox hg) | ((with_reducible refine Zap (N := 10) rfl ?_); refine yT (Kd.int .i64) _ 2 ?hg (N := 10) ?hd (xs := ([] : List Int)) (inner := []) (ok := fun _ => True) (okp := fun _ => True) ?hr ?hp (fun _ hk => hk) trivial (Below.refl _ _) (Nat.le_refl _) (by simp) ?_; (case hd => rfl); (case hg => rfl); (case hr => first | (go_simp; done) | (go_simp; rfl)); (case hp => exact (Reps.none _ _)); intro a1 w5 I hb hg_ hnew_; clear hg_ hnew_; (first | rw [← U.out] at I | (simp only [Int.reduceToNat] at I; rw [← U.out] at I)); have ag := mA (zP I (Zag (bW))); replace c := mA (blkB c.out hb); replace HB := mA (Zac (bW) hb); clear hb I))
 go_loopg [7, 8] k (fun kq v7 v8 w' => ∃ (p : List Int) (a : Int), v8 = .int .i64 a ∧ Zaa (Zbg.l0 kq l1 a2 p a j l m d = some r) ∧ Zaa (kq ≤ k) ∧ Zaa (Kd.R (Kd.int .i64) 2 w' w.heap.size (fun _ => True) v7 p) ∧ Zaa (w'.heap[n]? = some (.cells #[.int .i64 j, .int .i64 l, .int .i64 m, (.slice x d.length q)] 34 (0, 0))) ∧ Zaa (Below w.heap.size w w'))
 case atStart => exact ⟨(ae), (0), (eW), H', ⟨Nat.le_refl _⟩, ⟨rP ag.out⟩, ⟨bP c.out⟩, ⟨bW⟩⟩
 case round =>
  clear H'
  obtain ⟨p, a, rfl, HA, W, s, c, HB⟩ := hrel
  cases gk with
  | zero => exact absurd HA.out (by simp [Zbg.l0])
  | succ k1 =>
   have H := HA.out
   clear HA
   simp only [Zbg.l0] at H
   by_cases c7 : a < (l1.length : Int); rotate_left
   ·rw [if_neg c7] at H
    have av := dF c7
    clear c7
    obtain rfl := oI H
    go_wp2
    go_ret
    exact ⟨_, eW, (rP s.out), bW⟩
   rw [if_pos c7] at H
   have av := dT c7
   clear c7
   by_cases c8 : 0 ≤ a; rotate_left
   ·rw [if_neg c8] at H
    exact absurd H (by simp)
   rw [if_pos c8] at H
   have a3 := dT c8
   clear c8
   by_cases c9 : (rd l1 a) ≥ 0; rotate_left
   ·rw [if_neg c9] at H
    have aw : decide (0 ≤ (rd l1 a)) = false := dF c9
    clear c9
    by_cases X : p.length < 17592186044416; rotate_left
    ·rw [if_neg X] at H
     exact absurd H (by simp)
    rw [if_pos X] at H
    have ah := mA X
    clear X
    obtain ⟨ax, E⟩ : ∃ y_ : List Int, y_ = (p ++ [rd l1 a]) := ⟨_, rfl⟩
    rw [← E] at H
    have ai := mA E
    clear E
    have H' := mA H
    clear H
    have u : 0 ≤ (a : Int) := ofD
    have v : a < (l1.length : Int) := ofD
    obtain ⟨aj, J, i⟩ := zI au.out a u v
    cases J
    replace i := (HB.out.cell (wB w i)).trans i
    replace u := eq_true u
    replace v := eq_true v
    go_wp2_with (first | ((with_reducible refine Zbl (b := .append) (xs := #[.tmp 31, .tmp 33]) rfl ?_); at_builtin; refine xI (Kd.int .i64) (w0 := w) w.heap.size rfl (.tmp 31) (.tmp 33) 22 2 (.int .i64 0) 8 rfl Tryd.underlying22 info2 rfl (by decide) (by omega) u7 p (rd l1 a) [.int .i64 (rd l1 a)] (fun _ => True) (fun _ => False) rfl rfl ?aP (fun _ hk => hk.elim) ?aF ?aO ?aB ?aS ?aL ?_; (case aP => exact rfl); (case aB => exact (bW)); (case aF => exact (fun _ _ => trivial)); (case aO => exact (rP s.out)); (case aS => exact (Zag (bW))); (case aL => have := ah.out; omega); intro a4 a7 ho hb hg hat; rw [← ai.out] at ho; replace c := mA (Zaq (g := n) (o := .cells #[.int .i64 j, .int .i64 l, .int .i64 m, .slice x d.length q] 34 (0, 0)) (bP c.out) hg (zO s.out c.out (by decide))); replace HB := mA (hb); have ak := mA (ho); clear s ho hb hg hat))
    go_roundg k1
    case measure => have := W.out; omega
    case rel => exact ⟨(ax), (wrap64 (a + 1)), (eW), H', ⟨by have := W.out; omega⟩, ⟨rP ak.out⟩, ⟨bP c.out⟩, ⟨bW⟩⟩
   rw [if_pos c9] at H
   have aw : decide (0 ≤ (rd l1 a)) = true := dT c9
   clear c9
   by_cases c10 : 0 ≤ (rd l1 a); rotate_left
   ·rw [if_neg c10] at H
    exact absurd H (by simp)
   rw [if_pos c10] at H
   have aV := dT c10
   clear c10
   by_cases Y : (rd l1 a) < (d.length : Int); rotate_left
   ·rw [if_neg Y] at H
    exact absurd H (by simp)
   rw [if_pos Y] at H
   have aW := dT Y
   clear Y
   by_cases aa : 0 ≤ a2; rotate_left
   ·rw [if_neg aa] at H
    exact absurd H (by simp)
   rw [if_pos aa] at H
   have aX := dT aa
   clear aa
   by_cases ab : a2 < ((Zae d (rd l1 a)).length : Int); rotate_left
   ·rw [if_neg ab] at H
    exact absurd H (by simp)
   rw [if_pos ab] at H
   have aY := dT ab
   clear ab
   by_cases ac : p.length < 17592186044416; rotate_left
   ·rw [if_neg ac] at H
    exact absurd H (by simp)
   rw [if_pos ac] at H
   have al := mA ac
   clear ac
   obtain ⟨ay, G⟩ : ∃ y_ : List Int, y_ = (p ++ [rd (Zae d (rd l1 a)) a2]) := ⟨_, rfl⟩
   rw [← G] at H
   have am := mA G
   clear G
   have H' := mA H
   clear H
   have u : 0 ≤ (a : Int) := ofD
   have v : a < (l1.length : Int) := ofD
   obtain ⟨aj, J, i⟩ := zI au.out a u v
   cases J
   replace i := (HB.out.cell (wB w i)).trans i
   replace u := eq_true u
   replace v := eq_true v
   have aC : wr.cell? ⟨n, 0, none⟩ = some (.int .i64 j) := bc c 0
   have aD : wr.cell? ⟨n, 1, none⟩ = some (.int .i64 l) := bc c 1
   have aE : wr.cell? ⟨n, 2, none⟩ = some (.int .i64 m) := bc c 2
   have aG : wr.cell? ⟨n, 3, none⟩ = some (.slice x d.length q) := bc c 3
   have aH := Zab c.out 0
   have aI := Zab c.out 1
   have aJ := Zab c.out 2
   have aK := Zab c.out 3
   have K : 0 ≤ ((rd l1 a) : Int) := ofD
   have L : (rd l1 a) < (d.length : Int) := ofD
   obtain ⟨an, aN, aQ, az, y, A, B⟩ := Zch af.out (rd l1 a) K L
   cases az
   replace y := (HB.out.cell (wB w y)).trans y
   have ad := mA B
   have aM := mA A
   clear B A
   replace K := eq_true K
   replace L := eq_true L
   have M : 0 ≤ (a2 : Int) := ofD
   have O : a2 < ((Zae d (rd l1 a)).length : Int) := ofD
   obtain ⟨aZ, aA, z⟩ := zI ad.out a2 M O
   cases aA
   replace z := (HB.out.cell (wB w z)).trans z
   replace M := eq_true M
   replace O := eq_true O
   go_wp2_with (first | ((with_reducible refine Zbl (b := .append) (xs := #[.tmp 31, .tmp 33]) rfl ?_); at_builtin; refine xI (Kd.int .i64) (w0 := w) w.heap.size rfl (.tmp 31) (.tmp 33) 22 2 (.int .i64 0) 8 rfl Tryd.underlying22 info2 rfl (by decide) (by omega) u7 p (rd (Zae d (rd l1 a)) a2) [.int .i64 (rd (Zae d (rd l1 a)) a2)] (fun _ => True) (fun _ => False) rfl rfl ?aP (fun _ hk => hk.elim) ?aF ?aO ?aB ?aS ?aL ?_; (case aP => exact rfl); (case aB => exact (bW)); (case aF => exact (fun _ _ => trivial)); (case aO => exact (rP s.out)); (case aS => exact (Zag (bW))); (case aL => have := al.out; omega); intro a5 a8 ho hb hg hat; rw [← am.out] at ho; replace c := mA (Zaq (g := n) (o := .cells #[.int .i64 j, .int .i64 l, .int .i64 m, .slice (some an) d.length q] 34 (0, 0)) (bP c.out) hg (zO s.out c.out (by decide))); replace HB := mA (hb); have ao := mA (ho); clear s ho hb hg hat))
   go_roundg k1
   case measure => have := W.out; omega
   case rel => exact ⟨(ay), (wrap64 (a + 1)), (eW), H', ⟨by have := W.out; omega⟩, ⟨rP ao.out⟩, ⟨bP c.out⟩, ⟨bW⟩⟩
end Go.Proofs.YtgindgodfcfgkaaDoor.P
end M3
