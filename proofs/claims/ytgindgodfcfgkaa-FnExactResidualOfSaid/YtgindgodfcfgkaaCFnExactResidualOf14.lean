import Derived.Test.YtgindgodfcfgkaaCFnExactResidualOf3
import Derived.Test.YtgindgodfcfgkaaCFnExactResidualOf13
set_option maxHeartbeats 8000000
set_option maxRecDepth 100000
section M0
namespace Go.Proofs.Ytgindgodfcfgkaa.P
open Go.RowKit Go.Proofs.Ytgindgodfcfgkaa.Sh Go.Proofs.YtgindgodfcfgkaaW.PrintWords Go.Proofs.YtgindgodfcfgkaaW.PrintLast Go.Proofs.YtgindgodfcfgkaaW.PrintMore
open Kd
attribute [local go_sem] Zcc Zcd Zck Zcl Zb2 Zb3 Zce Zcb   -- for this text's walks alone
set_option linter.unusedVariables false
set_option linter.unusedSimpArgs false
def Zbw.l0 : Nat → Int → List Int → Int → Option (Bool)
 | 0, _, _, _ => none
 | k + 1, x0, x1, x5 => if x5 < (x1.length : Int) then (if 0 ≤ x5 then ((Za0.f (rd x1 x5) 0 (wrap64 (x0 - 1))).bind fun a => (if a = true then (Zbw.l0 k x0 x1 (wrap64 (x5 + 1))) else (some false))) else (none)) else (some (decide ((x1.length : Int) ≤ 24)))
def Zbw.f (k : Nat) (a0 : Int) (l1 : List Int) : Option (Bool) := Zbw.l0 k a0 l1 0
theorem Zbw.calls (k : Nat) (a0 : Int) (A1 : Option Addr) (c1 : Nat) (l1 : List Int) (r : Bool) (w : World) (j : Kd.C (Kd.int .i64) w A1 l1.length l1) (l : l1.length ≤ c1) (h : Zbw.f k a0 l1 = some r) :
  Calls Try.prog 92 #[.int .i64 a0, .slice A1 l1.length c1] w fun e w' => e = .returned (.bool r) ∧ Zas w w' := by
 have m := mA j
 have s := mA l
 clear j l
 unfold Zbw.f at h
 have H := h
 clear h
 have H' := mA H
 clear H
 go_enter Try.func92, Try.ntmps92
 go_wp2
 go_loopg [5] k (fun kq v5 w' => ∃ (a : Int), v5 = .int .i64 a ∧ Zad (Zbw.l0 kq a0 l1 a = some r) ∧ Zad (kq ≤ k) ∧ Zas w w')
 case atStart => exact ⟨(0), (eW), H', ⟨Nat.le_refl _⟩, by repeat (first | exact Zas.refl _ | apply Zas.step)⟩
 case round =>
  clear H'
  try clear c1
  try clear p2
  obtain ⟨a, rfl, HA, HK1, ⟨m1, rfl⟩⟩ := hrel
  cases gk with
  | zero => exact absurd HA.out (by simp [Zbw.l0])
  | succ k1 =>
   have H := HA.out
   clear HA
   simp only [Zbw.l0] at H
   by_cases c3 : a < (l1.length : Int); rotate_left
   ·rw [if_neg c3] at H
    have o := dF c3
    clear c3
    obtain rfl := oI H
    go_wp2
    go_ret
    exact ⟨eW, by repeat (first | exact Zas.refl _ | apply Zas.step)⟩
   rw [if_pos c3] at H
   have o := dT c3
   clear c3
   by_cases c4 : 0 ≤ a; rotate_left
   ·rw [if_neg c4] at H
    exact absurd H (by simp)
   rw [if_pos c4] at H
   have q := dT c4
   clear c4
   replace H := bE H
   obtain ⟨p, n, H⟩ := H
   have A5 := mA n
   clear n
   by_cases c6 : p = true; rotate_left
   ·replace c6 := Bool.eq_false_iff.mpr c6
    subst c6
    rw [iF] at H
    obtain rfl := oI H
    have b : 0 ≤ (a : Int) := ofD
    have c : a < (l1.length : Int) := ofD
    obtain ⟨i, d, g⟩ := zO m.out a b c
    cases d
    replace b := eq_true b
    replace c := eq_true c
    go_wp2_with (first | ((with_reducible refine Zar (f := 81) rfl ?_); refine Za2 (some 18) Try.func81 #[.int .i64 (rd l1 a), .int .i64 0, .int .i64 (wrap64 (a0 - 1))] ?_; (with_reducible refine (Za0.calls (rd l1 a) 0 (wrap64 (a0 - 1)) false _ A5.out).mono ?_); rintro e w' ⟨rfl, ⟨nd, rfl⟩⟩; refine ⟨_, rfl, ?_⟩))
    go_ret
    exact ⟨eW, by repeat (first | exact Zas.refl _ | apply Zas.step)⟩
   subst c6
   rw [if_pos rfl] at H
   have H' := mA H
   clear H
   have b : 0 ≤ (a : Int) := ofD
   have c : a < (l1.length : Int) := ofD
   obtain ⟨i, d, g⟩ := zO m.out a b c
   cases d
   replace b := eq_true b
   replace c := eq_true c
   go_wp2_with (first | ((with_reducible refine Zar (f := 81) rfl ?_); refine Za2 (some 18) Try.func81 #[.int .i64 (rd l1 a), .int .i64 0, .int .i64 (wrap64 (a0 - 1))] ?_; (with_reducible refine (Za0.calls (rd l1 a) 0 (wrap64 (a0 - 1)) true _ A5.out).mono ?_); rintro e w' ⟨rfl, ⟨nd, rfl⟩⟩; refine ⟨_, rfl, ?_⟩))
   go_roundg k1
   case measure => have := HK1.out; omega
   case rel => exact ⟨(wrap64 (a + 1)), (eW), H', ⟨by have := HK1.out; omega⟩, by repeat (first | exact Zas.refl _ | apply Zas.step)⟩
def Zc3.f (k : Nat) (a : Int) (b : Int) (c : Int) (d : List (List Int)) (l1 : List Int) : Option (Int) := (Za4.f k a b c d).bind fun e => (if e = true then ((Zbw.f k a l1).bind fun g => (if g = true then (some 0) else (some 2))) else (some 1))
theorem Zc3.calls (k : Nat) (b : Int) (d : Int) (g : Int) (i : Option Addr) (j : Nat) (c : List (List Int)) (A1 : Option Addr) (c1 : Nat) (l1 : List Int) (r : Int) (w : World) (n : Kd.C (Kd.slice 2 (Kd.int .i64)) w i c.length c) (o : c.length ≤ j) (u : Kd.C (Kd.int .i64) w A1 l1.length l1) (v : l1.length ≤ c1) (h : Zc3.f k b d g c l1 = some r) :
  Calls Try.prog 48 #[.agg #[.int .i64 b, .int .i64 d, .int .i64 g, .slice i c.length j], .slice A1 l1.length c1] w fun e w' => e = .returned (.int .i64 r) ∧ Below w.heap.size w w' := by
 have aC := Try.underlying26
 have l := mA n
 have m := mA o
 clear n o
 have x := mA u
 have y := mA v
 clear u v
 have HB := mA (Below.refl w.heap.size w)
 unfold Zc3.f at h
 have H := h
 clear h
 replace H := bE H
 obtain ⟨B, z, H⟩ := H
 have A3 := mA z
 clear z
 by_cases c4 : B = true; rotate_left
 ·replace c4 := Bool.eq_false_iff.mpr c4
  subst c4
  rw [iF] at H
  obtain rfl := oI H
  go_enter Try.func48, Try.ntmps48
  go_wp2_with (first | ((with_reducible refine Zap (N := 2) rfl ?_); refine boxS (N := 2) (cs := #[.int .i64 b, .int .i64 d, .int .i64 g, .slice i c.length j]) (t := 26) ?_; intro p hg aD hbox hb; have a := mA (hbox); have q := geW (w := w) hg; have s := geW (w := w) hg; replace HB := mA (Zaf (bW) hb); clear hb hbox hg; obtain ⟨E, G, I, J⟩ := Zau a.out; obtain ⟨K, L, M, O⟩ := frz4 a.out) | ((with_reducible refine Zar (f := 39) rfl ?_); refine Za2 (some 7) Try.func39 #[.agg #[.int .i64 b, .int .i64 d, .int .i64 g, .slice i c.length j]] ?_; (with_reducible refine (Za4.calls k b d g _ _ c false _ ?side1 ?side2 A3.out).mono ?_); (case side1 => exact cP (zL l.out HB.out)); (case side2 => exact m.out); rintro e aE ⟨rfl, hb⟩; refine ⟨_, rfl, ?_⟩; replace a := mA (blkB a.out hb); replace HB := mA (Zaf (bW) hb); (try clear hb); (try clear hb2); (try clear hk); (try clear hi)))
  go_ret
  exact ⟨eW, bW⟩
 subst c4
 rw [if_pos rfl] at H
 replace H := bE H
 obtain ⟨D, A, H⟩ := H
 have A5 := mA A
 clear A
 by_cases c6 : D = true
 ·subst c6
  rw [if_pos rfl] at H
  obtain rfl := oI H
  go_enter Try.func48, Try.ntmps48
  go_wp2_with (first | ((with_reducible refine Zap (N := 2) rfl ?_); refine boxS (N := 2) (cs := #[.int .i64 b, .int .i64 d, .int .i64 g, .slice i c.length j]) (t := 26) ?_; intro p hg w7 hbox hb; have a := mA (hbox); have q := geW (w := w) hg; have s := geW (w := w) hg; replace HB := mA (Zaf (bW) hb); clear hb hbox hg; obtain ⟨au, av, aw, ax⟩ := Zau a.out; obtain ⟨ay, az, aA, aB⟩ := frz4 a.out) | ((with_reducible refine Zar (f := 39) rfl ?_); refine Za2 (some 7) Try.func39 #[.agg #[.int .i64 b, .int .i64 d, .int .i64 g, .slice i c.length j]] ?_; (with_reducible refine (Za4.calls k b d g _ _ c true _ ?side1 ?side2 A3.out).mono ?_); (case side1 => exact cP (zL l.out HB.out)); (case side2 => exact m.out); rintro e w9 ⟨rfl, hb⟩; refine ⟨_, rfl, ?_⟩; replace a := mA (blkB a.out hb); replace HB := mA (Zaf (bW) hb); (try clear hb); (try clear hb2); (try clear hk); (try clear hi); obtain ⟨P, T, U, W⟩ := Zau a.out; obtain ⟨X, Y, aa, ab⟩ := frz4 a.out) | ((with_reducible refine Zar (f := 92) rfl ?_); refine Za2 (some 13) Try.func92 #[.int .i64 b, .slice A1 l1.length c1] ?_; (with_reducible refine (Zbw.calls k b _ _ l1 true _ ?side1 ?side2 A5.out).mono ?_); (case side1 => exact cP (zL x.out HB.out)); (case side2 => exact y.out); rintro e w' ⟨rfl, ⟨nd, rfl⟩⟩; refine ⟨_, rfl, ?_⟩))
  go_ret
  exact ⟨eW, bW⟩
 replace c6 := Bool.eq_false_iff.mpr c6
 subst c6
 rw [iF] at H
 obtain rfl := oI H
 go_enter Try.func48, Try.ntmps48
 go_wp2_with (first | ((with_reducible refine Zap (N := 2) rfl ?_); refine boxS (N := 2) (cs := #[.int .i64 b, .int .i64 d, .int .i64 g, .slice i c.length j]) (t := 26) ?_; intro p hg aF hbox hb; have a := mA (hbox); have q := geW (w := w) hg; have s := geW (w := w) hg; replace HB := mA (Zaf (bW) hb); clear hb hbox hg; obtain ⟨ac, ad, ae, af⟩ := Zau a.out; obtain ⟨ag, ah, ai, aj⟩ := frz4 a.out) | ((with_reducible refine Zar (f := 39) rfl ?_); refine Za2 (some 7) Try.func39 #[.agg #[.int .i64 b, .int .i64 d, .int .i64 g, .slice i c.length j]] ?_; (with_reducible refine (Za4.calls k b d g _ _ c true _ ?side1 ?side2 A3.out).mono ?_); (case side1 => exact cP (zL l.out HB.out)); (case side2 => exact m.out); rintro e aG ⟨rfl, hb⟩; refine ⟨_, rfl, ?_⟩; replace a := mA (blkB a.out hb); replace HB := mA (Zaf (bW) hb); (try clear hb); (try clear hb2); (try clear hk); (try clear hi); obtain ⟨ak, al, am, an⟩ := Zau a.out; obtain ⟨ao, ap, aq, ar⟩ := frz4 a.out) | ((with_reducible refine Zar (f := 92) rfl ?_); refine Za2 (some 13) Try.func92 #[.int .i64 b, .slice A1 l1.length c1] ?_; (with_reducible refine (Zbw.calls k b _ _ l1 false _ ?side1 ?side2 A5.out).mono ?_); (case side1 => exact cP (zL x.out HB.out)); (case side2 => exact y.out); rintro e w' ⟨rfl, ⟨nd, rfl⟩⟩; refine ⟨_, rfl, ?_⟩))
 go_ret
 exact ⟨eW, bW⟩
def Zbu.l0 : Nat → Int → List Int → Int → Int → Int → Int → List (List Int) → Option (Int)
 | 0, _, _, _, _, _, _, _ => none
 | k + 1, x1, x2, x7, b, c, d, a => if x7 < (x2.length : Int) then (if x1 ≥ 0 then (if 0 ≤ x1 then (if x1 < (a.length : Int) then (if 0 ≤ x7 then (if 0 ≤ (rd x2 x7) then (if (rd x2 x7) < ((Zah a x1).length : Int) then (Zbu.l0 k (rd (Zah a x1) (rd x2 x7)) x2 (wrap64 (x7 + 1)) b c d a) else (none)) else (none)) else (none)) else (none)) else (none)) else (some x1)) else (some x1)
def Zbu.f (k : Nat) (a : Int) (b : Int) (c : Int) (d : List (List Int)) (a1 : Int) (l2 : List Int) : Option (Int) := Zbu.l0 k a1 l2 0 a b c d
theorem Zbu.calls (k : Nat) (i : Int) (j : Int) (l : Int) (m : Option Addr) (n : Nat) (b : List (List Int)) (a1 : Int) (A2 : Option Addr) (c2 : Nat) (l2 : List Int) (r : Int) (w : World) (D : Kd.C (Kd.slice 2 (Kd.int .i64)) w m b.length b) (E : b.length ≤ n) (M : Kd.C (Kd.int .i64) w A2 l2.length l2) (O : l2.length ≤ c2) (h : Zbu.f k i j l b a1 l2 = some r) :
  Calls Try.prog 49 #[.agg #[.int .i64 i, .int .i64 j, .int .i64 l, .slice m b.length n], .int .i64 a1, .slice A2 l2.length c2] w fun e w' => e = .returned (.int .i64 r) ∧ Below w.heap.size w w' := by
 have au := Try.underlying26
 have L := mA D
 have am := mA E
 clear D E
 have aj := mA M
 have ay := mA O
 clear M O
 have HB := mA (Below.refl w.heap.size w)
 unfold Zbu.f at h
 have H := h
 clear h
 have H' := mA H
 clear H
 go_enter Try.func49, Try.ntmps49
 go_wp2_with (first | ((with_reducible refine Zap (N := 3) rfl ?_); refine boxS (N := 3) (cs := #[.int .i64 i, .int .i64 j, .int .i64 l, .slice m b.length n]) (t := 26) ?_; intro g hg w4 hbox hb; have a := mA (hbox); have G := geW (w := w) hg; have I := geW (w := w) hg; replace HB := mA (Zaf (bW) hb); clear hb hbox hg))
 repeat (go_quiet (first | ((with_reducible refine Zap (N := 3) rfl ?_); refine boxS (N := 3) (cs := #[.int .i64 i, .int .i64 j, .int .i64 l, .slice m b.length n]) (t := 26) ?_; intro g hg w4 hbox hb; have a := mA (hbox); have G := geW (w := w) hg; have I := geW (w := w) hg; replace HB := mA (Zaf (bW) hb); clear hb hbox hg)); try go_wp2_with (first | ((with_reducible refine Zap (N := 3) rfl ?_); refine boxS (N := 3) (cs := #[.int .i64 i, .int .i64 j, .int .i64 l, .slice m b.length n]) (t := 26) ?_; intro g hg w4 hbox hb; have a := mA (hbox); have G := geW (w := w) hg; have I := geW (w := w) hg; replace HB := mA (Zaf (bW) hb); clear hb hbox hg)))
 go_loopg [1, 7] k (fun kq v1 v7 w' => ∃ (d : Int) (c : Int), v1 = .int .i64 d ∧ v7 = .int .i64 c ∧ Zad (Zbu.l0 kq d l2 c i j l b = some r) ∧ Zad (kq ≤ k) ∧ Zad (w'.heap[g]? = some (.cells #[.int .i64 i, .int .i64 j, .int .i64 l, (.slice m b.length n)] 26 (0, 0))) ∧ Zad (Below w.heap.size w w'))
 case atStart => exact ⟨(a1), (0), (eW), (eW), H', ⟨Nat.le_refl _⟩, ⟨bP a.out⟩, ⟨bW⟩⟩
 case round =>
  clear H'
  try clear c2
  try clear p2
  try clear c4
  obtain ⟨d, c, rfl, rfl, HA, P, a, HB⟩ := hrel
  cases gk with
  | zero => exact absurd HA.out (by simp [Zbu.l0])
  | succ k1 =>
   have H := HA.out
   clear HA
   simp only [Zbu.l0] at H
   by_cases c5 : c < (l2.length : Int); rotate_left
   ·rw [if_neg c5] at H
    have T := dF c5
    clear c5
    obtain rfl := oI H
    go_wp2
    repeat (go_quiet (fail); try go_wp2)
    go_ret
    exact ⟨eW, bW⟩
   rw [if_pos c5] at H
   have T := dT c5
   clear c5
   by_cases c6 : d ≥ 0; rotate_left
   ·rw [if_neg c6] at H
    have U : decide (0 ≤ d) = false := dF c6
    clear c6
    obtain rfl := oI H
    go_wp2
    repeat (go_quiet (fail); try go_wp2)
    go_ret
    exact ⟨eW, bW⟩
   rw [if_pos c6] at H
   have U : decide (0 ≤ d) = true := dT c6
   clear c6
   by_cases c7 : 0 ≤ d; rotate_left
   ·rw [if_neg c7] at H
    exact absurd H (by simp)
   rw [if_pos c7] at H
   have av := dT c7
   clear c7
   by_cases c8 : d < (b.length : Int); rotate_left
   ·rw [if_neg c8] at H
    exact absurd H (by simp)
   rw [if_pos c8] at H
   have aw := dT c8
   clear c8
   by_cases c9 : 0 ≤ c; rotate_left
   ·rw [if_neg c9] at H
    exact absurd H (by simp)
   rw [if_pos c9] at H
   have ax := dT c9
   clear c9
   by_cases c10 : 0 ≤ (rd l2 c); rotate_left
   ·rw [if_neg c10] at H
    exact absurd H (by simp)
   rw [if_pos c10] at H
   have an := dT c10
   clear c10
   by_cases J : (rd l2 c) < ((Zah b d).length : Int); rotate_left
   ·rw [if_neg J] at H
    exact absurd H (by simp)
   rw [if_pos J] at H
   have ao := dT J
   clear J
   have H' := mA H
   clear H
   have aa : wr.cell? ⟨g, 0, none⟩ = some (.int .i64 i) := bc a 0
   have ab : wr.cell? ⟨g, 1, none⟩ = some (.int .i64 j) := bc a 1
   have ac : wr.cell? ⟨g, 2, none⟩ = some (.int .i64 l) := bc a 2
   have ad : wr.cell? ⟨g, 3, none⟩ = some (.slice m b.length n) := bc a 3
   have ae := Zae a.out 0
   have af := Zae a.out 1
   have ag := Zae a.out 2
   have ah := Zae a.out 3
   have v : 0 ≤ (d : Int) := ofD
   have x : d < (b.length : Int) := ofD
   obtain ⟨ap, ak, al, W, o, s, u⟩ := Zca L.out d v x
   cases W
   replace o := (HB.out.cell (wB w o)).trans o
   have K := mA u
   have ai := mA s
   clear u s
   replace v := eq_true v
   replace x := eq_true x
   have y : 0 ≤ (c : Int) := ofD
   have z : c < (l2.length : Int) := ofD
   obtain ⟨aq, X, p⟩ := zO aj.out c y z
   cases X
   replace p := (HB.out.cell (wB w p)).trans p
   replace y := eq_true y
   replace z := eq_true z
   have A : 0 ≤ ((rd l2 c) : Int) := ofD
   have B : (rd l2 c) < ((Zah b d).length : Int) := ofD
   obtain ⟨ar, Y, q⟩ := zO K.out (rd l2 c) A B
   cases Y
   replace q := (HB.out.cell (wB w q)).trans q
   replace A := eq_true A
   replace B := eq_true B
   go_wp2
   repeat (go_quiet (fail); try go_wp2)
   go_roundg k1
   case measure => have := P.out; omega
   case rel => exact ⟨(rd (Zah b d) (rd l2 c)), (wrap64 (c + 1)), (eW), (eW), H', ⟨by have := P.out; omega⟩, ⟨bP a.out⟩, ⟨bW⟩⟩
def Zbv.l0 : Nat → Int → List Int → Int → Option (Int × Int × Int × (List (List Int)))
 | 0, _, _, _ => none
 | k + 1, x0, x3, x4 => if x4 < x0 then (if x3.length < 17592186044416 then (Zbv.l0 k x0 (x3 ++ [(-1)]) (wrap64 (x4 + 1))) else (none)) else (some (x0, 0, 0, (([x3] : List (List Int)))))
def Zbv.f (k : Nat) (a0 : Int) : Option (Int × Int × Int × (List (List Int))) := Zbv.l0 k a0 (([] : List Int)) 0
theorem Zbv.calls (k : Nat) (a0 : Int) (r1 : Int) (r2 : Int) (r3 : Int) (r4 : List (List Int)) (w : World) (h : Zbv.f k a0 = some (r1, r2, r3, r4)) :
  Calls Try.prog 50 #[.int .i64 a0] w fun e w' => ∃ G : Value, e = .returned (.agg #[.int .i64 r1, .int .i64 r2, .int .i64 r3, G]) ∧ Kd.S (Kd.slice 2 (Kd.int .i64)) 33 w' w.heap.size (fun _ => True) G r4 ∧ Below w.heap.size w w' := by
 have ag := Try.underlying26
 have HB := mA (Below.refl w.heap.size w)
 unfold Zbv.f at h
 have H := h
 clear h
 obtain ⟨x, m⟩ : ∃ y_ : List Int, y_ = (([] : List Int)) := ⟨_, rfl⟩
 replace H : (Zbv.l0 k a0 x 0) = some (r1, r2, r3, r4) := by rw [m]; with_reducible exact H
 have s := mA m
 clear m
 have H' := mA H
 clear H
 go_enter Try.func50, Try.ntmps50
 go_wp2_with (first | ((with_reducible refine Zap (N := 2) rfl ?_); refine boxS (N := 2) (cs := #[.int .i64 0, .int .i64 0, .int .i64 0, .slice none 0 0]) (t := 26) ?_; intro c hg w2 hbox hb; have a := mA (hbox); have ae := geW (w := w) hg; have af := geW (w := w) hg; replace HB := mA (Zaf (bW) hb); clear hb hbox hg) | ((with_reducible refine Zap (N := 5) rfl ?_); refine yS (Kd.int .i64) _ 2 ?hg (N := 5) ?hd (xs := ([] : List Int)) (inner := []) (ok := fun _ => True) (okp := fun _ => True) ?hr ?hp (fun _ hk => hk) trivial (Below.refl _ _) (Nat.le_refl _) (by simp) ?_; (case hd => rfl); (case hg => rfl); (case hr => first | (go_simp; done) | (go_simp; rfl)); (case hp => exact (Reps.none _ _)); intro ah w3 r hb hg_ hnew_; clear hg_ hnew_; (first | rw [← s.out] at r | (simp only [Int.reduceToNat] at r; rw [← s.out] at r)); have B := mA (zV r (Zan (bW))); replace a := mA (blkB a.out hb); replace HB := mA (Zaf (bW) hb); clear hb r))
 go_loopg [3, 4] k (fun kq v3 v4 w' => ∃ (d : List Int) (j : Int), v4 = .int .i64 j ∧ Zad (Zbv.l0 kq a0 d j = some (r1, r2, r3, r4)) ∧ Zad (kq ≤ k) ∧ Zad (Kd.R (Kd.int .i64) 2 w' w.heap.size (fun _ => True) v3 d) ∧ Zad (w'.heap[c]? = some (.cells #[.int .i64 0, .int .i64 0, .int .i64 0, (.slice none 0 0)] 26 (0, 0))) ∧ Zad (Below w.heap.size w w'))
 case atStart => exact ⟨(x), (0), (eW), H', ⟨Nat.le_refl _⟩, ⟨rP B.out⟩, ⟨bP a.out⟩, ⟨bW⟩⟩
 case round =>
  clear H'
  try clear p2
  obtain ⟨d, j, rfl, HA, I, i, a, HB⟩ := hrel
  cases gk with
  | zero => exact absurd HA.out (by simp [Zbv.l0])
  | succ k1 =>
   have H := HA.out
   clear HA
   simp only [Zbv.l0] at H
   by_cases c5 : j < a0
   ·rw [if_pos c5] at H
    have J := dT c5
    clear c5
    by_cases c6 : d.length < 17592186044416; rotate_left
    ·rw [if_neg c6] at H
     exact absurd H (by simp)
    rw [if_pos c6] at H
    have K := mA c6
    clear c6
    obtain ⟨L, n⟩ : ∃ y_ : List Int, y_ = (d ++ [(-1)]) := ⟨_, rfl⟩
    rw [← n] at H
    have D := mA n
    clear n
    have H' := mA H
    clear H
    go_wp2_with (first | ((with_reducible refine Zbp (b := .append) (xs := #[.tmp 11, .tmp 12]) rfl ?_); at_builtin; refine xN (Kd.int .i64) (w0 := w) w.heap.size rfl (.tmp 11) (.tmp 12) 33 2 (.int .i64 0) 8 rfl Try.underlying33 info2 rfl (by decide) (by omega) u3 d (-1) [.int .i64 (-1)] (fun _ => True) (fun _ => False) rfl rfl ?aP (fun _ hk => hk.elim) ?aF ?aO ?aB ?aS ?aL ?_; (case aP => exact rfl); (case aB => exact (bW)); (case aF => exact (fun _ _ => trivial)); (case aO => exact (rP i.out)); (case aS => exact (Zan (bW))); (case aL => have := K.out; omega); intro ai w7 ho hb hg hat; rw [← D.out] at ho; replace a := mA (Zaq (g := c) (o := .cells #[.int .i64 0, .int .i64 0, .int .i64 0, .slice none 0 0] 26 (0, 0)) (bP a.out) hg (zQ i.out a.out (by decide))); replace HB := mA (hb); have E := mA (ho); clear i ho hb hg hat))
    go_roundg k1
    case measure => have := I.out; omega
    case rel => exact ⟨(L), (wrap64 (j + 1)), (eW), H', ⟨by have := I.out; omega⟩, ⟨rP E.out⟩, ⟨bP a.out⟩, ⟨bW⟩⟩
   rw [if_neg c5] at H
   have J := dF c5
   clear c5
   obtain ⟨y, q⟩ : ∃ y_ : List (List Int), y_ = (([d] : List (List Int))) := ⟨_, rfl⟩
   rw [← q] at H
   have u := mA q
   clear q
   simp only [Option.some.injEq, Prod.mk.injEq] at H
   obtain ⟨rfl, rfl, rfl, rfl⟩ := H
   obtain ⟨ab, ac, ad⟩ := zP i.out
   subst ad
   go_wp2_with (first | ((with_reducible refine Zap (N := 16) rfl ?_); refine Kd.S_lit1 (Kd.slice 2 (Kd.int .i64)) w.heap.size 33 ?hg (N := 16) ?hd (xs := ([d] : List (List Int))) (inner := [.slice ab d.length ac]) (ok := (fun _ => True)) (okp := (fun _ => True)) ?hr ?hp (fun _ hk => hk) ((show ∀ k_, wr.heap.size ≤ k_ → (fun _ => True) k_ from fun k_ hk => trivial) _ (Nat.le_refl _)) (Below.refl _ _) ((Zan (bW))) (by simp) ?_; (case hd => rfl); (case hg => rfl); (case hr => first | (go_simp; done) | (go_simp; rfl)); (case hp => exact ⟨_, rfl, rfl, Kd.M_row (by (with_reducible repeat (first | apply zD | apply zE | apply zA)); exact (zC (ok' := (fun _ => True)) (i.out) (fun k_ hk => trivial)))⟩); intro aj w9 l hb hg_ hnew_; have hown_ := own_new hnew_; clear hg_ hnew_; (first | rw [← u.out] at l | (simp only [Int.reduceToNat] at l; rw [← u.out] at l)); have v := mA (l); replace a := mA (blkB a.out hb); replace HB := mA (Zaf (bW) hb); clear i hb l hown_; obtain ⟨z, A, M⟩ := yD v.out; subst M; obtain ⟨O, P, T, U⟩ := Zau a.out; obtain ⟨W, X, Y, aa⟩ := frz4 a.out))
   refine bodyPost_ret (results_cell_row rfl _ _ c 26 #[.int .i64 a0, .int .i64 0, .int .i64 0, .slice z y.length A] (0, 0) _ rfl (by (with_reducible repeat (first | refine Zac ?_ _ | refine Zab ?_ | refine Zaa ?_ _)); refine Zao (cs := #[.int .i64 a0, .int .i64 0, .int .i64 0, .slice none 0 0]) ?_ 3 _ rfl; (with_reducible repeat (first | refine Zac ?_ _ | refine Zab ?_ | refine Zaa ?_ _)); refine Zao (cs := #[.int .i64 a0, .int .i64 0, .int .i64 0, .slice none 0 0]) ?_ 2 _ rfl; (with_reducible repeat (first | refine Zac ?_ _ | refine Zab ?_ | refine Zaa ?_ _)); refine Zao (cs := #[.int .i64 a0, .int .i64 0, .int .i64 0, .slice none 0 0]) ?_ 1 _ rfl; (with_reducible repeat (first | refine Zac ?_ _ | refine Zab ?_ | refine Zaa ?_ _)); refine Zao (cs := #[.int .i64 0, .int .i64 0, .int .i64 0, .slice none 0 0]) ?_ 0 _ rfl; exact bP a.out) Try.underlying26 rfl (by kernel_rfl)) rfl ?_
   exact ⟨_, eW, by (with_reducible repeat (first | apply zI | apply zJ | apply zG)); exact zF (zB (p := ⟨c, 3, none⟩) (zB (p := ⟨c, 2, none⟩) (zB (p := ⟨c, 1, none⟩) (zB (p := ⟨c, 0, none⟩) (zR v.out a.out (by decide)) (fun _ hk => hk.2) (.int .i64 a0)) (fun _ hk => hk.2) (.int .i64 0)) (fun _ hk => hk.2) (.int .i64 0)) (fun _ hk => hk.2) (.slice z y.length A)) (fun _ hk => trivial), bW⟩
def Zc1.f (k : Nat) (c : Int) (d : Int) (e : Int) (g : List (List Int)) (l1 : List Int) : Option (Int × Int × Int × (List (List Int)) × Int) := (Zc3.f k c d e g l1).bind fun h => (if h = 0 then ((Zbu.f k c d e g d l1).bind fun i => (if i < 0 then ((Zbv.f k c).bind fun a => (some (a.1, a.2.1, a.2.2.1, a.2.2.2, 0))) else ((Zdb.f k c i e g).bind fun b => (some (b.1, b.2.1, b.2.2.1, b.2.2.2, 0))))) else (some (0, 0, 0, ([] : List (List Int)), h)))
theorem Zc1.calls (k : Nat) (d : Int) (g : Int) (i : Int) (n : Option Addr) (o : Nat) (c : List (List Int)) (A1 : Option Addr) (c1 : Nat) (l1 : List Int) (r1 : Int) (r2 : Int) (r3 : Int) (r4 : List (List Int)) (r5 : Int) (w : World) (K : Kd.C (Kd.slice 2 (Kd.int .i64)) w n c.length c) (L : c.length ≤ o) (ad : Kd.C (Kd.int .i64) w A1 l1.length l1) (ae : l1.length ≤ c1) (h : Zc1.f k d g i c l1 = some (r1, r2, r3, r4, r5)) :
  Calls Try.prog 18 #[.agg #[.int .i64 d, .int .i64 g, .int .i64 i, .slice n c.length o], .slice A1 l1.length c1] w fun e w' => ∃ af : Value, e = .returned (.tuple #[.agg #[.int .i64 r1, .int .i64 r2, .int .i64 r3, af], .int .i64 r5]) ∧ Kd.S (Kd.slice 2 (Kd.int .i64)) 33 w' w.heap.size (fun _ => True) af r4 ∧ Below w.heap.size w w' := by
 have bT := Try.underlying26
 have r := mA K
 have s := mA L
 clear K L
 have D := mA ad
 have E := mA ae
 clear ad ae
 have HB := mA (Below.refl w.heap.size w)
 unfold Zc1.f at h
 have H := h
 clear h
 replace H := bE H
 obtain ⟨q, ag, H⟩ := H
 have A3 := mA ag
 clear ag
 by_cases c4 : q = 0; rotate_left
 ·rw [if_neg c4] at H
  have ai : (q == 0) = false := beq_eq_false_iff_ne.mpr c4
  have aj : (q != 0) = true := bne_iff_ne.mpr c4
  simp only [Option.some.injEq, Prod.mk.injEq] at H
  obtain ⟨rfl, rfl, rfl, rfl, rfl⟩ := H
  go_enter Try.func18, Try.ntmps18
  go_wp2_with (first | ((with_reducible refine Zap (N := 2) rfl ?_); refine boxS (N := 2) (cs := #[.int .i64 d, .int .i64 g, .int .i64 i, .slice n c.length o]) (t := 26) ?_; intro M hg bX hbox hb; have a := mA (hbox); have O := geW (w := w) hg; have P := geW (w := w) hg; replace HB := mA (Zaf (bW) hb); clear hb hbox hg) | ((with_reducible refine Zap (N := 4) rfl ?_); refine boxS (N := 4) (cs := #[.int .i64 0, .int .i64 0, .int .i64 0, .slice none 0 0]) (t := 26) ?_; intro j hg bY hbox hb; have b := mA (hbox); have T := geW (w := w) hg; have U := geW (w := w) hg; replace HB := mA (Zaf (bW) hb); have l := mA (neB hg a); have m := mA (neC hg a); replace a := mA (blkB a.out hb); clear hb hbox hg; have bM := l.out; have bN := m.out; obtain ⟨an, ao, ap, aq⟩ := Zau a.out; obtain ⟨ar, au, av, aw⟩ := frz4 a.out) | ((with_reducible refine Zar (f := 48) rfl ?_); refine Za2 (some 10) Try.func48 #[.agg #[.int .i64 d, .int .i64 g, .int .i64 i, .slice n c.length o], .slice A1 l1.length c1] ?_; (with_reducible refine (Zc3.calls k d g i _ _ c _ _ l1 q _ ?side1 ?side2 ?side3 ?side4 A3.out).mono ?_); (case side1 => exact cP (zL r.out HB.out)); (case side2 => exact s.out); (case side3 => exact cP (zL D.out HB.out)); (case side4 => exact E.out); rintro e bZ ⟨rfl, hb⟩; refine ⟨_, rfl, ?_⟩; replace a := mA (blkB a.out hb); replace b := mA (blkB b.out hb); replace HB := mA (Zaf (bW) hb); (try clear hb); (try clear hb2); (try clear hk); (try clear hi); obtain ⟨ax, ay, az, aA⟩ := Zau b.out; obtain ⟨aB, aC, aD, aE⟩ := frz4 b.out))
  refine bodyPost_ret (Zdc rfl _ _ j 26 #[.int .i64 0, .int .i64 0, .int .i64 0, .slice none 0 0] (0, 0) _ rfl (by (with_reducible repeat (first | refine Zac ?_ _ | refine Zab ?_ | refine Zaa ?_ _)); refine Zao (cs := #[.int .i64 0, .int .i64 0, .int .i64 0, .slice none 0 0]) ?_ 3 _ rfl; (with_reducible repeat (first | refine Zac ?_ _ | refine Zab ?_ | refine Zaa ?_ _)); refine Zao (cs := #[.int .i64 0, .int .i64 0, .int .i64 0, .slice none 0 0]) ?_ 2 _ rfl; (with_reducible repeat (first | refine Zac ?_ _ | refine Zab ?_ | refine Zaa ?_ _)); refine Zao (cs := #[.int .i64 0, .int .i64 0, .int .i64 0, .slice none 0 0]) ?_ 1 _ rfl; (with_reducible repeat (first | refine Zac ?_ _ | refine Zab ?_ | refine Zaa ?_ _)); refine Zao (cs := #[.int .i64 0, .int .i64 0, .int .i64 0, .slice none 0 0]) ?_ 0 _ rfl; exact bP b.out) Try.underlying26 rfl (by kernel_rfl)) rfl ?_
  exact ⟨_, eW, by first | exact xC _ _ _ _ _ | exact xE _ _ _ _ _ | exact xF _ _ _ _ _ | exact xB _ _ _ _ _ | exact yT _ _ _ _ _, bW⟩
 rw [if_pos c4] at H
 have ai : (q == 0) = true := beq_iff_eq.mpr c4
 have aj : (q != 0) = false := bne_eq_false_iff_eq.mpr c4
 clear c4
 replace H := bE H
 obtain ⟨x, ah, H⟩ := H
 have A5 := mA ah
 clear ah
 by_cases c6 : x < 0
 ·rw [if_pos c6] at H
  have ak := dT c6
  clear c6
  replace H := bE H
  obtain ⟨⟨u, y, A, I⟩, A70, H⟩ := H
  try dsimp only at H
  have A7 := mA A70
  clear A70
  simp only [Option.some.injEq, Prod.mk.injEq] at H
  obtain ⟨rfl, rfl, rfl, rfl, rfl⟩ := H
  go_enter Try.func18, Try.ntmps18
  go_wp2_with (first | ((with_reducible refine Zap (N := 2) rfl ?_); refine boxS (N := 2) (cs := #[.int .i64 d, .int .i64 g, .int .i64 i, .slice n c.length o]) (t := 26) ?_; intro M hg w8 hbox hb; have a := mA (hbox); have O := geW (w := w) hg; have P := geW (w := w) hg; replace HB := mA (Zaf (bW) hb); clear hb hbox hg) | ((with_reducible refine Zap (N := 4) rfl ?_); refine boxS (N := 4) (cs := #[.int .i64 0, .int .i64 0, .int .i64 0, .slice none 0 0]) (t := 26) ?_; intro j hg w9 hbox hb; have b := mA (hbox); have T := geW (w := w) hg; have U := geW (w := w) hg; replace HB := mA (Zaf (bW) hb); have l := mA (neB hg a); have m := mA (neC hg a); replace a := mA (blkB a.out hb); clear hb hbox hg; have bO := l.out; have bQ := m.out; obtain ⟨aF, aG, aH, aI⟩ := Zau a.out; obtain ⟨aJ, aK, aL, aM⟩ := frz4 a.out) | ((with_reducible refine Zar (f := 48) rfl ?_); refine Za2 (some 10) Try.func48 #[.agg #[.int .i64 d, .int .i64 g, .int .i64 i, .slice n c.length o], .slice A1 l1.length c1] ?_; (with_reducible refine (Zc3.calls k d g i _ _ c _ _ l1 q _ ?side1 ?side2 ?side3 ?side4 A3.out).mono ?_); (case side1 => exact cP (zL r.out HB.out)); (case side2 => exact s.out); (case side3 => exact cP (zL D.out HB.out)); (case side4 => exact E.out); rintro e b0 ⟨rfl, hb⟩; refine ⟨_, rfl, ?_⟩; replace a := mA (blkB a.out hb); replace b := mA (blkB b.out hb); replace HB := mA (Zaf (bW) hb); (try clear hb); (try clear hb2); (try clear hk); (try clear hi); obtain ⟨aN, aO, aP, aQ⟩ := Zau a.out; obtain ⟨aR, aS, aT, aU⟩ := frz4 a.out) | ((with_reducible refine Zar (f := 49) rfl ?_); refine Za2 (some 19) Try.func49 #[.agg #[.int .i64 d, .int .i64 g, .int .i64 i, .slice n c.length o], .int .i64 g, .slice A1 l1.length c1] ?_; (with_reducible refine (Zbu.calls k d g i _ _ c g _ _ l1 x _ ?side1 ?side2 ?side3 ?side4 A5.out).mono ?_); (case side1 => exact cP (zL r.out HB.out)); (case side2 => exact s.out); (case side3 => exact cP (zL D.out HB.out)); (case side4 => exact E.out); rintro e b1 ⟨rfl, hb⟩; refine ⟨_, rfl, ?_⟩; replace a := mA (blkB a.out hb); replace b := mA (blkB b.out hb); replace HB := mA (Zaf (bW) hb); (try clear hb); (try clear hb2); (try clear hk); (try clear hi); obtain ⟨aV, aW, aX, aY⟩ := Zau a.out; obtain ⟨aZ, a0, a1, a2⟩ := frz4 a.out) | ((with_reducible refine Zar (f := 50) rfl ?_); refine Za2 (some 24) Try.func50 #[.int .i64 d] ?_; (with_reducible refine (Zbv.calls k d u y A I _ A7.out).mono ?_); rintro e b2 ⟨bU, rfl, G, hb⟩; refine ⟨_, rfl, ?_⟩; have W := mA (yR G (Zan (bW))); replace a := mA (blkB a.out hb); replace b := mA (blkB b.out hb); replace HB := mA (Zaf (bW) hb); (try clear hb); (try clear hb2); (try clear hk); (try clear hi); (try clear G); obtain ⟨a3, a4, a5, a6⟩ := Zau b.out; obtain ⟨a7, a8, a9, ba⟩ := frz4 b.out; obtain ⟨Y, aa, al⟩ := yD W.out; subst al))
  refine bodyPost_ret (Zdc rfl _ _ j 26 #[.int .i64 u, .int .i64 y, .int .i64 A, .slice Y I.length aa] (0, 0) _ rfl (by (with_reducible repeat (first | refine Zac ?_ _ | refine Zab ?_ | refine Zaa ?_ _)); refine Zao (cs := #[.int .i64 u, .int .i64 y, .int .i64 A, .slice none 0 0]) ?_ 3 _ rfl; (with_reducible repeat (first | refine Zac ?_ _ | refine Zab ?_ | refine Zaa ?_ _)); refine Zao (cs := #[.int .i64 u, .int .i64 y, .int .i64 0, .slice none 0 0]) ?_ 2 _ rfl; (with_reducible repeat (first | refine Zac ?_ _ | refine Zab ?_ | refine Zaa ?_ _)); refine Zao (cs := #[.int .i64 u, .int .i64 0, .int .i64 0, .slice none 0 0]) ?_ 1 _ rfl; (with_reducible repeat (first | refine Zac ?_ _ | refine Zab ?_ | refine Zaa ?_ _)); refine Zao (cs := #[.int .i64 0, .int .i64 0, .int .i64 0, .slice none 0 0]) ?_ 0 _ rfl; exact bP b.out) Try.underlying26 rfl (by kernel_rfl)) rfl ?_
  exact ⟨_, eW, by (with_reducible repeat (first | apply zI | apply zJ | apply zG)); exact zF (zB (p := ⟨j, 3, none⟩) (zB (p := ⟨j, 2, none⟩) (zB (p := ⟨j, 1, none⟩) (zB (p := ⟨j, 0, none⟩) (zR W.out b.out (by decide)) (fun _ hk => hk.2) (.int .i64 u)) (fun _ hk => hk.2) (.int .i64 y)) (fun _ hk => hk.2) (.int .i64 A)) (fun _ hk => hk.2) (.slice Y I.length aa)) (fun _ hk => trivial), bW⟩
 rw [if_neg c6] at H
 have ak := dF c6
 clear c6
 replace H := bE H
 obtain ⟨⟨v, z, B, J⟩, A190, H⟩ := H
 try dsimp only at H
 have bL := mA A190
 clear A190
 simp only [Option.some.injEq, Prod.mk.injEq] at H
 obtain ⟨rfl, rfl, rfl, rfl, rfl⟩ := H
 go_enter Try.func18, Try.ntmps18
 go_wp2_with (first | ((with_reducible refine Zap (N := 2) rfl ?_); refine boxS (N := 2) (cs := #[.int .i64 d, .int .i64 g, .int .i64 i, .slice n c.length o]) (t := 26) ?_; intro M hg b3 hbox hb; have a := mA (hbox); have O := geW (w := w) hg; have P := geW (w := w) hg; replace HB := mA (Zaf (bW) hb); clear hb hbox hg) | ((with_reducible refine Zap (N := 4) rfl ?_); refine boxS (N := 4) (cs := #[.int .i64 0, .int .i64 0, .int .i64 0, .slice none 0 0]) (t := 26) ?_; intro j hg b4 hbox hb; have b := mA (hbox); have T := geW (w := w) hg; have U := geW (w := w) hg; replace HB := mA (Zaf (bW) hb); have l := mA (neB hg a); have m := mA (neC hg a); replace a := mA (blkB a.out hb); clear hb hbox hg; have bR := l.out; have bS := m.out; obtain ⟨bb, bc, bd, bf⟩ := Zau a.out; obtain ⟨bg, bh, bi, bj⟩ := frz4 a.out) | ((with_reducible refine Zar (f := 48) rfl ?_); refine Za2 (some 10) Try.func48 #[.agg #[.int .i64 d, .int .i64 g, .int .i64 i, .slice n c.length o], .slice A1 l1.length c1] ?_; (with_reducible refine (Zc3.calls k d g i _ _ c _ _ l1 q _ ?side1 ?side2 ?side3 ?side4 A3.out).mono ?_); (case side1 => exact cP (zL r.out HB.out)); (case side2 => exact s.out); (case side3 => exact cP (zL D.out HB.out)); (case side4 => exact E.out); rintro e b5 ⟨rfl, hb⟩; refine ⟨_, rfl, ?_⟩; replace a := mA (blkB a.out hb); replace b := mA (blkB b.out hb); replace HB := mA (Zaf (bW) hb); (try clear hb); (try clear hb2); (try clear hk); (try clear hi); obtain ⟨bk, bl, bm, bn⟩ := Zau a.out; obtain ⟨bo, bp, bq, br⟩ := frz4 a.out) | ((with_reducible refine Zar (f := 49) rfl ?_); refine Za2 (some 19) Try.func49 #[.agg #[.int .i64 d, .int .i64 g, .int .i64 i, .slice n c.length o], .int .i64 g, .slice A1 l1.length c1] ?_; (with_reducible refine (Zbu.calls k d g i _ _ c g _ _ l1 x _ ?side1 ?side2 ?side3 ?side4 A5.out).mono ?_); (case side1 => exact cP (zL r.out HB.out)); (case side2 => exact s.out); (case side3 => exact cP (zL D.out HB.out)); (case side4 => exact E.out); rintro e b6 ⟨rfl, hb⟩; refine ⟨_, rfl, ?_⟩; replace a := mA (blkB a.out hb); replace b := mA (blkB b.out hb); replace HB := mA (Zaf (bW) hb); (try clear hb); (try clear hb2); (try clear hk); (try clear hi); obtain ⟨bs, bu, bv, bw⟩ := Zau a.out; obtain ⟨bx, bz, bA, bB⟩ := frz4 a.out) | ((with_reducible refine Zar (f := 40) rfl ?_); refine Za2 (some 33) Try.func40 #[.agg #[.int .i64 d, .int .i64 x, .int .i64 i, .slice n c.length o]] ?_; (with_reducible refine (Zdb.calls k d x i _ _ c v z B J _ ?side1 ?side2 bL.out).mono ?_); (case side1 => exact cP (zL r.out HB.out)); (case side2 => exact s.out); rintro e b7 ⟨bV, rfl, G, hb⟩; refine ⟨_, rfl, ?_⟩; have X := mA (yR G (Zan (bW))); replace a := mA (blkB a.out hb); replace b := mA (blkB b.out hb); replace HB := mA (Zaf (bW) hb); (try clear hb); (try clear hb2); (try clear hk); (try clear hi); (try clear G); obtain ⟨bC, bD, bF, bG⟩ := Zau b.out; obtain ⟨bH, bI, bJ, bK⟩ := frz4 b.out; obtain ⟨ab, ac, am⟩ := yD X.out; subst am))
 refine bodyPost_ret (Zdc rfl _ _ j 26 #[.int .i64 v, .int .i64 z, .int .i64 B, .slice ab J.length ac] (0, 0) _ rfl (by (with_reducible repeat (first | refine Zac ?_ _ | refine Zab ?_ | refine Zaa ?_ _)); refine Zao (cs := #[.int .i64 v, .int .i64 z, .int .i64 B, .slice none 0 0]) ?_ 3 _ rfl; (with_reducible repeat (first | refine Zac ?_ _ | refine Zab ?_ | refine Zaa ?_ _)); refine Zao (cs := #[.int .i64 v, .int .i64 z, .int .i64 0, .slice none 0 0]) ?_ 2 _ rfl; (with_reducible repeat (first | refine Zac ?_ _ | refine Zab ?_ | refine Zaa ?_ _)); refine Zao (cs := #[.int .i64 v, .int .i64 0, .int .i64 0, .slice none 0 0]) ?_ 1 _ rfl; (with_reducible repeat (first | refine Zac ?_ _ | refine Zab ?_ | refine Zaa ?_ _)); refine Zao (cs := #[.int .i64 0, .int .i64 0, .int .i64 0, .slice none 0 0]) ?_ 0 _ rfl; exact bP b.out) Try.underlying26 rfl (by kernel_rfl)) rfl ?_
 exact ⟨_, eW, by (with_reducible repeat (first | apply zI | apply zJ | apply zG)); exact zF (zB (p := ⟨j, 3, none⟩) (zB (p := ⟨j, 2, none⟩) (zB (p := ⟨j, 1, none⟩) (zB (p := ⟨j, 0, none⟩) (zR X.out b.out (by decide)) (fun _ hk => hk.2) (.int .i64 v)) (fun _ hk => hk.2) (.int .i64 z)) (fun _ hk => hk.2) (.int .i64 B)) (fun _ hk => hk.2) (.slice ab J.length ac)) (fun _ hk => trivial), bW⟩
def Zde.f (a0 : Int) (l1 : List Int) : Option (Bool) := if (l1.length : Int) ≤ 24 then ((Zdg.f l1 0 (wrap64 (a0 - 1))).bind fun a => (some a)) else (some false)
theorem Zde.calls (a0 : Int) (A1 : Option Addr) (c1 : Nat) (l1 : List Int) (r : Bool) (w : World) (a : Kd.C (Kd.int .i64) w A1 l1.length l1) (b : l1.length ≤ c1) (h : Zde.f a0 l1 = some r) :
  Calls Try.prog 93 #[.int .i64 a0, .slice A1 l1.length c1] w fun e w' => e = .returned (.bool r) ∧ Below w.heap.size w w' := by
 have j := mA a
 have k := mA b
 clear a b
 have HB := mA (Below.refl w.heap.size w)
 unfold Zde.f at h
 have H := h
 clear h
 by_cases c3 : (l1.length : Int) ≤ 24; rotate_left
 ·rw [if_neg c3] at H
  have d := dF c3
  have g : decide (l1.length ≤ 24) = false := decide_eq_false (by omega)
  clear c3
  obtain rfl := oI H
  go_enter Try.func93, Try.ntmps93
  go_wp2
  go_ret
  exact ⟨eW, bW⟩
 rw [if_pos c3] at H
 have d := dT c3
 have g : decide (l1.length ≤ 24) = true := decide_eq_true (by omega)
 clear c3
 replace H := bE H
 obtain ⟨i, c, H⟩ := H
 have A4 := mA c
 clear c
 obtain rfl := oI H
 go_enter Try.func93, Try.ntmps93
 go_wp2_with (first | (go_at_call 88; (with_reducible refine (Zdg.calls _ _ l1 0 (wrap64 (a0 - 1)) i _ ?side1 ?side2 A4.out).mono ?_); (case side1 => exact cP j.out); (case side2 => exact k.out); rintro e w5 ⟨rfl, hb⟩; replace HB := mA (Zaf (bW) hb); (try clear hb); (try clear hb2); (try clear hk); (try clear hi)))
 go_ret
 exact ⟨eW, bW⟩
def Zcr.f (a : Int) (b : Int) (c : Int) (d : List (List Int)) (l1 : List Int) : Option (Int) := (Zcz.f a b c d).bind fun e => (if e = true then ((Zde.f a l1).bind fun g => (if g = true then (some 0) else (some 2))) else (some 1))
theorem Zcr.calls (b : Int) (d : Int) (g : Int) (i : Option Addr) (j : Nat) (c : List (List Int)) (A1 : Option Addr) (c1 : Nat) (l1 : List Int) (r : Int) (w : World) (m : Kd.C (Kd.slice 2 (Kd.int .i64)) w i c.length c) (n : c.length ≤ j) (s : Kd.C (Kd.int .i64) w A1 l1.length l1) (u : l1.length ≤ c1) (h : Zcr.f b d g c l1 = some r) :
  Calls Try.prog 51 #[.agg #[.int .i64 b, .int .i64 d, .int .i64 g, .slice i c.length j], .slice A1 l1.length c1] w fun e w' => e = .returned (.int .i64 r) ∧ Below w.heap.size w w' := by
 have aB := Try.underlying26
 have k := mA m
 have l := mA n
 clear m n
 have v := mA s
 have x := mA u
 clear s u
 have HB := mA (Below.refl w.heap.size w)
 unfold Zcr.f at h
 have H := h
 clear h
 replace H := bE H
 obtain ⟨A, y, H⟩ := H
 have A3 := mA y
 clear y
 by_cases c4 : A = true; rotate_left
 ·replace c4 := Bool.eq_false_iff.mpr c4
  subst c4
  rw [iF] at H
  obtain rfl := oI H
  go_enter Try.func51, Try.ntmps51
  go_wp2_with (first | ((with_reducible refine Zap (N := 2) rfl ?_); refine boxS (N := 2) (cs := #[.int .i64 b, .int .i64 d, .int .i64 g, .slice i c.length j]) (t := 26) ?_; intro o hg aC hbox hb; have a := mA (hbox); have p := geW (w := w) hg; have q := geW (w := w) hg; replace HB := mA (Zaf (bW) hb); clear hb hbox hg; obtain ⟨D, E, G, I⟩ := Zau a.out; obtain ⟨J, K, L, M⟩ := frz4 a.out) | ((with_reducible refine Zar (f := 42) rfl ?_); refine Za2 (some 7) Try.func42 #[.agg #[.int .i64 b, .int .i64 d, .int .i64 g, .slice i c.length j]] ?_; (with_reducible refine (Zcz.calls b d g _ _ c false _ ?side1 ?side2 A3.out).mono ?_); (case side1 => exact cP (zL k.out HB.out)); (case side2 => exact l.out); rintro e aD ⟨rfl, hb⟩; refine ⟨_, rfl, ?_⟩; replace a := mA (blkB a.out hb); replace HB := mA (Zaf (bW) hb); (try clear hb); (try clear hb2); (try clear hk); (try clear hi)))
  go_ret
  exact ⟨eW, bW⟩
 subst c4
 rw [if_pos rfl] at H
 replace H := bE H
 obtain ⟨B, z, H⟩ := H
 have A5 := mA z
 clear z
 by_cases c6 : B = true
 ·subst c6
  rw [if_pos rfl] at H
  obtain rfl := oI H
  go_enter Try.func51, Try.ntmps51
  go_wp2_with (first | ((with_reducible refine Zap (N := 2) rfl ?_); refine boxS (N := 2) (cs := #[.int .i64 b, .int .i64 d, .int .i64 g, .slice i c.length j]) (t := 26) ?_; intro o hg w7 hbox hb; have a := mA (hbox); have p := geW (w := w) hg; have q := geW (w := w) hg; replace HB := mA (Zaf (bW) hb); clear hb hbox hg; obtain ⟨ar, au, av, aw⟩ := Zau a.out; obtain ⟨ax, ay, az, aA⟩ := frz4 a.out) | ((with_reducible refine Zar (f := 42) rfl ?_); refine Za2 (some 7) Try.func42 #[.agg #[.int .i64 b, .int .i64 d, .int .i64 g, .slice i c.length j]] ?_; (with_reducible refine (Zcz.calls b d g _ _ c true _ ?side1 ?side2 A3.out).mono ?_); (case side1 => exact cP (zL k.out HB.out)); (case side2 => exact l.out); rintro e w9 ⟨rfl, hb⟩; refine ⟨_, rfl, ?_⟩; replace a := mA (blkB a.out hb); replace HB := mA (Zaf (bW) hb); (try clear hb); (try clear hb2); (try clear hk); (try clear hi); obtain ⟨O, P, T, U⟩ := Zau a.out; obtain ⟨W, X, Y, aa⟩ := frz4 a.out) | ((with_reducible refine Zar (f := 93) rfl ?_); refine Za2 (some 13) Try.func93 #[.int .i64 b, .slice A1 l1.length c1] ?_; (with_reducible refine (Zde.calls b _ _ l1 true _ ?side1 ?side2 A5.out).mono ?_); (case side1 => exact cP (zL v.out HB.out)); (case side2 => exact x.out); rintro e aE ⟨rfl, hb⟩; refine ⟨_, rfl, ?_⟩; replace a := mA (blkB a.out hb); replace HB := mA (Zaf (bW) hb); (try clear hb); (try clear hb2); (try clear hk); (try clear hi)))
  go_ret
  exact ⟨eW, bW⟩
 replace c6 := Bool.eq_false_iff.mpr c6
 subst c6
 rw [iF] at H
 obtain rfl := oI H
 go_enter Try.func51, Try.ntmps51
 go_wp2_with (first | ((with_reducible refine Zap (N := 2) rfl ?_); refine boxS (N := 2) (cs := #[.int .i64 b, .int .i64 d, .int .i64 g, .slice i c.length j]) (t := 26) ?_; intro o hg aF hbox hb; have a := mA (hbox); have p := geW (w := w) hg; have q := geW (w := w) hg; replace HB := mA (Zaf (bW) hb); clear hb hbox hg; obtain ⟨ab, ac, ad, ae⟩ := Zau a.out; obtain ⟨af, ag, ah, ai⟩ := frz4 a.out) | ((with_reducible refine Zar (f := 42) rfl ?_); refine Za2 (some 7) Try.func42 #[.agg #[.int .i64 b, .int .i64 d, .int .i64 g, .slice i c.length j]] ?_; (with_reducible refine (Zcz.calls b d g _ _ c true _ ?side1 ?side2 A3.out).mono ?_); (case side1 => exact cP (zL k.out HB.out)); (case side2 => exact l.out); rintro e aG ⟨rfl, hb⟩; refine ⟨_, rfl, ?_⟩; replace a := mA (blkB a.out hb); replace HB := mA (Zaf (bW) hb); (try clear hb); (try clear hb2); (try clear hk); (try clear hi); obtain ⟨aj, ak, al, am⟩ := Zau a.out; obtain ⟨an, ao, ap, aq⟩ := frz4 a.out) | ((with_reducible refine Zar (f := 93) rfl ?_); refine Za2 (some 13) Try.func93 #[.int .i64 b, .slice A1 l1.length c1] ?_; (with_reducible refine (Zde.calls b _ _ l1 false _ ?side1 ?side2 A5.out).mono ?_); (case side1 => exact cP (zL v.out HB.out)); (case side2 => exact x.out); rintro e aH ⟨rfl, hb⟩; refine ⟨_, rfl, ?_⟩; replace a := mA (blkB a.out hb); replace HB := mA (Zaf (bW) hb); (try clear hb); (try clear hb2); (try clear hk); (try clear hi)))
 go_ret
 exact ⟨eW, bW⟩
def Zct.f (b : Int) (c : Int) (d : List Bool) (a : List (List Int)) (a1 : Int) (a2 : Int) : Option (Int) := if a1 < 0 then (some (-1)) else (if 0 ≤ a1 then (if a1 < (a.length : Int) then (if 0 ≤ a2 then (if a2 < ((Zah a a1).length : Int) then (some (rd (Zah a a1) a2)) else (none)) else (none)) else (none)) else (none))
theorem Zct.calls (j : Int) (k : Int) (l : Option Addr) (m : Nat) (b : List Bool) (n : Option Addr) (o : Nat) (a : List (List Int)) (a1 : Int) (a2 : Int) (r : Int) (w : World) (x : Kd.C Kd.bool w l b.length b) (y : b.length ≤ m) (z : Kd.C (Kd.slice 2 (Kd.int .i64)) w n a.length a) (A : a.length ≤ o) (h : Zct.f j k b a a1 a2 = some r) :
  Calls Try.prog 94 #[.agg #[.int .i64 j, .int .i64 k, .slice l b.length m, .slice n a.length o], .int .i64 a1, .int .i64 a2] w fun e w' => e = .returned (.int .i64 r) ∧ Below w.heap.size w w' := by
 have ai := Try.underlying63
 have ad := mA x
 have ae := mA y
 clear x y
 have D := mA z
 have af := mA A
 clear z A
 have HB := mA (Below.refl w.heap.size w)
 unfold Zct.f at h
 have H := h
 clear h
 by_cases c4 : a1 < 0
 ·rw [if_pos c4] at H
  have J := dT c4
  clear c4
  obtain rfl := oI H
  go_enter Try.func94, Try.ntmps94
  go_wp2_with (first | ((with_reducible refine Zap (N := 3) rfl ?_); refine boxS (N := 3) (cs := #[.int .i64 j, .int .i64 k, .slice l b.length m, .slice n a.length o]) (t := 63) ?_; intro E hg w5 hbox hb; have p := mA (hbox); have G := geW (w := w) hg; have I := geW (w := w) hg; replace HB := mA (Zaf (bW) hb); clear hb hbox hg))
  go_ret
  exact ⟨eW, bW⟩
 rw [if_neg c4] at H
 have J := dF c4
 clear c4
 by_cases c6 : 0 ≤ a1; rotate_left
 ·rw [if_neg c6] at H
  exact absurd H (by simp)
 rw [if_pos c6] at H
 have aj := dT c6
 clear c6
 by_cases c7 : a1 < (a.length : Int); rotate_left
 ·rw [if_neg c7] at H
  exact absurd H (by simp)
 rw [if_pos c7] at H
 have ak := dT c7
 clear c7
 by_cases c8 : 0 ≤ a2; rotate_left
 ·rw [if_neg c8] at H
  exact absurd H (by simp)
 rw [if_pos c8] at H
 have al := dT c8
 clear c8
 by_cases c9 : a2 < ((Zah a a1).length : Int); rotate_left
 ·rw [if_neg c9] at H
  exact absurd H (by simp)
 rw [if_pos c9] at H
 have am := dT c9
 clear c9
 obtain rfl := oI H
 go_enter Try.func94, Try.ntmps94
 go_wp2_with (first | ((with_reducible refine Zap (N := 3) rfl ?_); refine boxS (N := 3) (cs := #[.int .i64 j, .int .i64 k, .slice l b.length m, .slice n a.length o]) (t := 63) ?_; intro E hg an hbox hb; have p := mA (hbox); have G := geW (w := w) hg; have I := geW (w := w) hg; replace HB := mA (Zaf (bW) hb); clear hb hbox hg; obtain ⟨M, O, P, T⟩ := Zau p.out; obtain ⟨U, W, X, Y⟩ := frz4 p.out; have q : 0 ≤ (a1 : Int) := ofD; have s : a1 < (a.length : Int) := ofD; obtain ⟨ag, ab, ac, K, c, g, i⟩ := Zca D.out a1 q s; cases K; replace c := (HB.out.cell (wB w c)).trans c; have B := mA i; have aa := mA g; clear i g; replace q := eq_true q; replace s := eq_true s; have u : 0 ≤ (a2 : Int) := ofD; have v : a2 < ((Zah a a1).length : Int) := ofD; obtain ⟨ah, L, d⟩ := zO B.out a2 u v; cases L; replace d := (HB.out.cell (wB w d)).trans d; replace u := eq_true u; replace v := eq_true v))
 go_ret
 exact ⟨eW, bW⟩
def Zbf.l0 : Nat → Int → List Int → Int → Int → Int → Int → List Bool → List (List Int) → Option (Int)
 | 0, _, _, _, _, _, _, _, _ => none
 | k + 1, x5, g, h, e, a, b, c, d => if e < h then (if 0 ≤ e then (if e < (g.length : Int) then ((Zct.f a b c d x5 (rd g e)).bind fun i => (Zbf.l0 k i g h (wrap64 (e + 1)) a b c d)) else (none)) else (none)) else (some x5)
def Zbf.f (k : Nat) (b : Int) (a : Int) (c : List Bool) (d : List (List Int)) (l1 : List Int) : Option (Int) := Zbf.l0 k a l1 (l1.length : Int) 0 b a c d
theorem Zbf.calls (k : Nat) (i : Int) (g : Int) (l : Option Addr) (m : Nat) (c : List Bool) (n : Option Addr) (o : Nat) (d : List (List Int)) (A1 : Option Addr) (c1 : Nat) (l1 : List Int) (r : Int) (w : World) (v : Kd.C Kd.bool w l c.length c) (x : c.length ≤ m) (y : Kd.C (Kd.slice 2 (Kd.int .i64)) w n d.length d) (z : d.length ≤ o) (U : Kd.C (Kd.int .i64) w A1 l1.length l1) (W : l1.length ≤ c1) (h : Zbf.f k i g c d l1 = some r) :
  Calls Try.prog 52 #[.agg #[.int .i64 i, .int .i64 g, .slice l c.length m, .slice n d.length o], .slice A1 l1.length c1] w fun e w' => e = .returned (.int .i64 r) ∧ Below w.heap.size w w' := by
 have ao := Try.underlying63
 have M := mA v
 have O := mA x
 clear v x
 have P := mA y
 have T := mA z
 clear y z
 have ac := mA U
 have ar := mA W
 clear U W
 have HB := mA (Below.refl w.heap.size w)
 unfold Zbf.f at h
 have H := h
 clear h
 have H' := mA H
 clear H
 go_enter Try.func52, Try.ntmps52
 go_wp2_with (first | ((with_reducible refine Zap (N := 2) rfl ?_); refine boxS (N := 2) (cs := #[.int .i64 i, .int .i64 g, .slice l c.length m, .slice n d.length o]) (t := 63) ?_; intro j hg w3 hbox hb; have a := mA (hbox); have al := geW (w := w) hg; have am := geW (w := w) hg; replace HB := mA (Zaf (bW) hb); clear hb hbox hg; obtain ⟨A, B, D, E⟩ := Zau a.out; obtain ⟨G, I, J, K⟩ := frz4 a.out))
 go_loopg [5, 12] k (fun kq v5 v12 w' => ∃ (q : Int) (b : Int), v5 = .int .i64 q ∧ v12 = .int .i64 b ∧ Zad (Zbf.l0 kq q l1 (l1.length : Int) b i g c d = some r) ∧ Zad (kq ≤ k) ∧ Zad (w'.heap[j]? = some (.cells #[.int .i64 i, .int .i64 g, (.slice l c.length m), (.slice n d.length o)] 63 (0, 0))) ∧ Zad (Below w.heap.size w w'))
 case atStart => exact ⟨(g), (0), (eW), (eW), H', ⟨Nat.le_refl _⟩, ⟨bP a.out⟩, ⟨bW⟩⟩
 case round =>
  clear H'
  try clear c1
  try clear p2
  try clear A
  try clear B
  try clear D
  try clear E
  try clear G
  try clear I
  try clear J
  try clear K
  obtain ⟨q, b, rfl, rfl, HA, X, a, HB⟩ := hrel
  cases gk with
  | zero => exact absurd HA.out (by simp [Zbf.l0])
  | succ k1 =>
   have H := HA.out
   clear HA
   simp only [Zbf.l0] at H
   by_cases c5 : b < (l1.length : Int); rotate_left
   ·rw [if_neg c5] at H
    have aa := dF c5
    clear c5
    obtain rfl := oI H
    go_wp2
    go_ret
    exact ⟨eW, bW⟩
   rw [if_pos c5] at H
   have aa := dT c5
   clear c5
   by_cases c6 : 0 ≤ b; rotate_left
   ·rw [if_neg c6] at H
    exact absurd H (by simp)
   rw [if_pos c6] at H
   have ap := dT c6
   clear c6
   by_cases c7 : b < (l1.length : Int); rotate_left
   ·rw [if_neg c7] at H
    exact absurd H (by simp)
   rw [if_pos c7] at H
   have aq := dT c7
   clear c7
   replace H := bE H
   obtain ⟨L, Y, H⟩ := H
   have A8 := mA Y
   clear Y
   have H' := mA H
   clear H
   have s : 0 ≤ (b : Int) := ofD
   have u : b < (l1.length : Int) := ofD
   obtain ⟨an, ab, p⟩ := zO ac.out b s u
   cases ab
   replace p := (HB.out.cell (wB w p)).trans p
   replace s := eq_true s
   replace u := eq_true u
   have ad : wr.cell? ⟨j, 0, none⟩ = some (.int .i64 i) := bc a 0
   have ae : wr.cell? ⟨j, 1, none⟩ = some (.int .i64 g) := bc a 1
   have af : wr.cell? ⟨j, 2, none⟩ = some (.slice l c.length m) := bc a 2
   have ag : wr.cell? ⟨j, 3, none⟩ = some (.slice n d.length o) := bc a 3
   have ah := Zae a.out 0
   have ai := Zae a.out 1
   have aj := Zae a.out 2
   have ak := Zae a.out 3
   go_wp2_with (first | ((with_reducible refine Zar (f := 94) rfl ?_); refine Za2 (some 19) Try.func94 #[.agg #[.int .i64 i, .int .i64 g, .slice l c.length m, .slice n d.length o], .int .i64 q, .int .i64 (rd l1 b)] ?_; (with_reducible refine (Zct.calls i g _ _ c _ _ d q (rd l1 b) L _ ?side1 ?side2 ?side3 ?side4 A8.out).mono ?_); (case side1 => exact cP (zL M.out HB.out)); (case side2 => exact O.out); (case side3 => exact cP (zL P.out HB.out)); (case side4 => exact T.out); rintro e au ⟨rfl, hb⟩; refine ⟨_, rfl, ?_⟩; replace a := mA (blkB a.out hb); replace HB := mA (Zaf (bW) hb); (try clear hb); (try clear hb2); (try clear hk); (try clear hi)))
   go_roundg k1
   case measure => have := X.out; omega
   case rel => exact ⟨(L), (wrap64 (b + 1)), (eW), (eW), H', ⟨by have := X.out; omega⟩, ⟨bP a.out⟩, ⟨bW⟩⟩
end Go.Proofs.Ytgindgodfcfgkaa.P
end M0
