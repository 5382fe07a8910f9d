import Derived.Maps.OwnSet
import Derived.Test.YtgindgodfcfgkaaCFnExactMinimalAutomaton2
set_option maxHeartbeats 8000000
set_option maxRecDepth 100000
section M0
namespace Go.Proofs.Ytgindgodfcfgkaa.P
open Go.RowKit Go.Proofs.Ytgindgodfcfgkaa.Sh Go.Proofs.YtgindgodfcfgkaaW.PrintWords Go.Proofs.YtgindgodfcfgkaaW.PrintLast Go.Proofs.YtgindgodfcfgkaaW.PrintMore
open Kd
attribute [local go_sem] Zcf Zcc Zcn Zcp Zb5 Zb3 Zcd Zcb   -- for this text's walks alone
set_option linter.unusedVariables false
set_option linter.unusedSimpArgs false
def Zbs.l0 : Nat → List Int → List Int → Int → Option (List Int)
 | 0, _, _, _ => none
 | k + 1, x0, x3, x4 => if x4 < (x0.length : Int) then (if 0 ≤ x4 then (if x4 < (x3.length : Int) then (Zbs.l0 k x0 (x3.set (x4 : Int).toNat (rd x0 x4)) (wrap64 (x4 + 1))) else (none)) else (none)) else (some x3)
def Zbs.f (k : Nat) (l0 : List Int) : Option (List Int) := if 0 ≤ (l0.length : Int) then (if ((l0.length : Int) : Int).toNat ≤ 35184372088832 then (Zbs.l0 k l0 (List.replicate ((l0.length : Int) : Int).toNat 0) 0) else (none)) else (none)
theorem Zbs.calls (k : Nat) (A0 : Option Addr) (c0 : Nat) (l0 : List Int) (r : List Int) (w : World) (y : Kd.C (Kd.int .i64) w A0 l0.length l0) (z : l0.length ≤ c0) (h : Zbs.f k l0 = some r) :
  Calls Try.prog 19 #[.slice A0 l0.length c0] w fun e w' => ∃ A : Value, e = .returned (A) ∧ Kd.R (Kd.int .i64) 2 w' w.heap.size (fun _ => True) A r ∧ Below w.heap.size w w' := by
 have U := mA y
 have af := mA z
 clear y z
 have HB := mA (Below.refl w.heap.size w)
 unfold Zbs.f at h
 have H := h
 clear h
 by_cases c2 : 0 ≤ (l0.length : Int); rotate_left
 ·rw [if_neg c2] at H
  exact absurd H (by simp)
 rw [if_pos c2] at H
 have I := eq_true c2
 have J := dT c2
 clear c2
 by_cases c3 : ((l0.length : Int) : Int).toNat ≤ 35184372088832; rotate_left
 ·rw [if_neg c3] at H
  exact absurd H (by simp)
 rw [if_pos c3] at H
 have K := eq_true c3
 have L := dT c3
 clear c3
 obtain ⟨M, g⟩ : ∃ y_ : List Int, y_ = (List.replicate ((l0.length : Int) : Int).toNat 0) := ⟨_, rfl⟩
 rw [← g] at H
 have o := mA g
 clear g
 have H' := mA H
 clear H
 go_enter Try.func19, Try.ntmps19
 go_wp2_with (first | ((with_reducible refine Zar (N := 7) rfl ?_); refine xH (Kd.int .i64) _ 2 rfl (N := 7) rfl 33 _ _ rfl (l0.length : Int) rfl rfl Try.underlying33 (.int .i64 0) 8 info2 rfl (by decide) (by omega) 0 (ok := fun _ => True) (okp := fun _ => True) rfl (fun _ hk => hk) trivial (ofD) (Nat.le_trans (Nat.mul_le_mul_right _ (ofD : (l0.length : Int).toNat ≤ 35184372088832)) (by omega)) (Below.refl _ _) (Nat.le_refl _) ?_; intro O w4 j hb hg_ hnew_; clear hg_ hnew_; (first | rw [← o.out] at j | (simp only [Int.reduceToNat] at j; rw [← o.out] at j)); have v := mA (zU j (Zao (bW))); replace HB := mA (Zaf (bW) hb); clear hb j))
 go_loopg [4] k (fun kq v4 w' => ∃ (b : List Int) (a : Int), v4 = .int .i64 a ∧ Zad (Zbs.l0 kq l0 b a = some r) ∧ Zad (kq ≤ k) ∧ Zad (Kd.R (Kd.int .i64) 2 w' w.heap.size (fun _ => True) O b) ∧ Zad (Below w.heap.size w w'))
 case atStart => exact ⟨(M), (0), (eW), H', ⟨Nat.le_refl _⟩, ⟨rP v.out⟩, ⟨bW⟩⟩
 case round =>
  clear H'
  try clear c1
  try clear c2
  try clear I
  try clear J
  try clear p2
  try clear c3
  try clear K
  try clear L
  obtain ⟨b, a, rfl, HA, B, c, HB⟩ := hrel
  cases gk with
  | zero => exact absurd HA.out (by simp [Zbs.l0])
  | succ k1 =>
   have H := HA.out
   clear HA
   simp only [Zbs.l0] at H
   by_cases c6 : a < (l0.length : Int); rotate_left
   ·rw [if_neg c6] at H
    have P := dF c6
    clear c6
    obtain rfl := oI H
    go_wp2
    go_ret
    exact ⟨_, eW, (rP c.out), bW⟩
   rw [if_pos c6] at H
   have P := dT c6
   clear c6
   by_cases c7 : 0 ≤ a; rotate_left
   ·rw [if_neg c7] at H
    exact absurd H (by simp)
   rw [if_pos c7] at H
   have ad := dT c7
   clear c7
   by_cases c8 : a < (b.length : Int); rotate_left
   ·rw [if_neg c8] at H
    exact absurd H (by simp)
   rw [if_pos c8] at H
   have ae := dT c8
   clear c8
   obtain ⟨q, i⟩ : ∃ y_ : List Int, y_ = (b.set (a : Int).toNat (rd l0 a)) := ⟨_, rfl⟩
   rw [← i] at H
   have x := mA i
   clear i
   have H' := mA H
   clear H
   have l : 0 ≤ (a : Int) := ofD
   have m : a < (l0.length : Int) := ofD
   obtain ⟨aa, T, d⟩ := zL U.out a l m
   cases T
   replace d := (HB.out.cell (wB w d)).trans d
   replace l := eq_true l
   replace m := eq_true m
   have p9 : 0 ≤ (a : Int) := ofD
   have q9 : (a : Int) < ((b.length : Int) : Int) := ofD
   obtain ⟨s, W, D, E, X, ag, G⟩ := yH c.out (by omega)
   (first | cases D | (injection D with ea_ en_ ec_; (first | subst ea_ | (injection ea_ with ea_; subst ea_)); subst ec_; clear en_))
   have Y := mA E
   have ah := mA G
   clear E X G
   obtain ⟨ab, ac⟩ := yB 0 c.out (a : Int) p9 q9
   replace p9 := eq_true p9
   replace q9 := eq_true q9
   have n := yE c.out (a : Int) (rd l0 a)
   go_wp2_with (first | ((with_reducible refine Zbh (t := 2) (p := 20) rfl ?_); refine Zcv (t := 2) (p := 20) (w1 := (wr.setCell ⟨s, (a : Int).toNat, none⟩ (.int .i64 (rd l0 a)))) ?_; intro u hw; have hg : wr.grownBy u (some s) := (by rw [hw]; exact n.2); have hp_ : Kd.R (Kd.int .i64) 2 u w.heap.size (fun _ => True) (.slice (some ⟨s, 0, none⟩) b.length W) q := (by rw [hw, x.out]; exact n.1); clear n; replace c := mA (hp_); replace HB := mA ((by rw [hw]; exact Za8 (HB.out) Y.out : Below w.heap.size w u)); clear hg hw hp_))
   go_roundg k1
   case measure => have := B.out; omega
   case rel => exact ⟨(q), (wrap64 (a + 1)), (eW), H', ⟨by have := B.out; omega⟩, ⟨rP c.out⟩, ⟨bW⟩⟩
def Zbm.l0 : Nat → List (List Int) → List (List Int) → Int → Option ((List (List Int)))
 | 0, _, _, _ => none
 | k + 1, x0, x3, x4 => if x4 < (x0.length : Int) then (if 0 ≤ x4 then ((Zbs.f k (Zah x0 x4)).bind fun a => (if x4 < (x3.length : Int) then (Zbm.l0 k x0 (x3.set (x4 : Int).toNat a) (wrap64 (x4 + 1))) else (none))) else (none)) else (some x3)
def Zbm.f (k : Nat) (l0 : List (List Int)) : Option ((List (List Int))) := if 0 ≤ (l0.length : Int) then (if ((l0.length : Int) : Int).toNat ≤ 11728124029610 then (Zbm.l0 k l0 (List.replicate ((l0.length : Int) : Int).toNat []) 0) else (none)) else (none)
theorem Zbm.calls (k : Nat) (A0 : Option Addr) (c0 : Nat) (l0 : List (List Int)) (r : List (List Int)) (w : World) (ao : Kd.C (Kd.slice 2 (Kd.int .i64)) w A0 l0.length l0) (ap : l0.length ≤ c0) (h : Zbm.f k l0 = some r) :
  Calls Try.prog 41 #[.slice A0 l0.length c0] w fun e w' => ∃ aq : Value, e = .returned (aq) ∧ Kd.S (Kd.slice 2 (Kd.int .i64)) 33 w' w.heap.size (fun _ => True) aq r ∧ Below w.heap.size w w' := by
 have aH := mA ao
 have aW := mA ap
 clear ao ap
 have HB := mA (Below.refl w.heap.size w)
 unfold Zbm.f at h
 have H := h
 clear h
 by_cases c2 : 0 ≤ (l0.length : Int); rotate_left
 ·rw [if_neg c2] at H
  exact absurd H (by simp)
 rw [if_pos c2] at H
 have av := eq_true c2
 have aw := dT c2
 clear c2
 by_cases c3 : ((l0.length : Int) : Int).toNat ≤ 11728124029610; rotate_left
 ·rw [if_neg c3] at H
  exact absurd H (by simp)
 rw [if_pos c3] at H
 have ax := eq_true c3
 have ay := dT c3
 clear c3
 obtain ⟨az, n⟩ : ∃ y_ : List (List Int), y_ = (List.replicate ((l0.length : Int) : Int).toNat []) := ⟨_, rfl⟩
 rw [← n] at H
 have A := mA n
 clear n
 have H' := mA H
 clear H
 go_enter Try.func41, Try.ntmps41
 go_wp2_with (first | ((with_reducible refine Zar (N := 7) rfl ?_); refine Kd.S_make (Kd.slice 2 (Kd.int .i64)) _ 33 rfl (N := 7) rfl 22 _ _ rfl (l0.length : Int) rfl rfl Try.underlying22 (.slice none 0 0) 24 info33 rfl (by decide) (by omega) [] (ok := fun _ => True) (okp := fun _ => True) ⟨_, rfl, yN _ _ _ _ _⟩ (fun _ hk => hk) trivial (ofD) (Nat.le_trans (Nat.mul_le_mul_right _ (ofD : (l0.length : Int).toNat ≤ 11728124029610)) (by omega)) (Below.refl _ _) (Nat.le_refl _) ?_; intro aA w4 u hb hg_ hnew_; clear hg_ hnew_; (first | rw [← A.out] at u | (simp only [Int.reduceToNat] at u; rw [← A.out] at u)); have ak := mA (yM u (Zao (bW))); replace HB := mA (Zaf (bW) hb); clear hb u))
 go_loopg [4] k (fun kq v4 w' => ∃ (c : List (List Int)) (a : Int), v4 = .int .i64 a ∧ Zad (Zbm.l0 kq l0 c a = some r) ∧ Zad (kq ≤ k) ∧ Zad (Kd.S (Kd.slice 2 (Kd.int .i64)) 33 w' w.heap.size (fun _ => True) aA c) ∧ Zad (Below w.heap.size w w'))
 case atStart => exact ⟨(az), (0), (eW), H', ⟨Nat.le_refl _⟩, ⟨sP ak.out⟩, ⟨bW⟩⟩
 case round =>
  clear H'
  try clear c2
  try clear av
  try clear aw
  try clear p2
  try clear c3
  try clear ax
  try clear ay
  try clear c4
  obtain ⟨c, a, rfl, HA, ar, b, HB⟩ := hrel
  cases gk with
  | zero => exact absurd HA.out (by simp [Zbm.l0])
  | succ k1 =>
   have H := HA.out
   clear HA
   simp only [Zbm.l0] at H
   by_cases c6 : a < (l0.length : Int); rotate_left
   ·rw [if_neg c6] at H
    have aB := dF c6
    clear c6
    obtain rfl := oI H
    go_wp2
    go_ret
    exact ⟨_, eW, (sP b.out), bW⟩
   rw [if_pos c6] at H
   have aB := dT c6
   clear c6
   by_cases c7 : 0 ≤ a; rotate_left
   ·rw [if_neg c7] at H
    exact absurd H (by simp)
   rw [if_pos c7] at H
   have aO := dT c7
   clear c7
   replace H := bE H
   obtain ⟨x, au, H⟩ := H
   have A8 := mA au
   clear au
   by_cases c9 : a < (c.length : Int); rotate_left
   ·rw [if_neg c9] at H
    exact absurd H (by simp)
   rw [if_pos c9] at H
   have aP := dT c9
   clear c9
   obtain ⟨K, o⟩ : ∃ y_ : List (List Int), y_ = (c.set (a : Int).toNat x) := ⟨_, rfl⟩
   rw [← o] at H
   have al := mA o
   clear o
   have H' := mA H
   clear H
   have y : 0 ≤ (a : Int) := ofD
   have z : a < (l0.length : Int) := ofD
   obtain ⟨aM, L, M, aC, d, l, m⟩ := Zca aH.out a y z
   cases aC
   replace d := (HB.out.cell (wB w d)).trans d
   have I := mA m
   have J := mA l
   clear m l
   replace y := eq_true y
   replace z := eq_true z
   go_wp2_with (first | ((with_reducible refine Zat (f := 19) rfl ?_); refine Zbi (some 20) Try.func19 #[.slice L (Zah l0 a).length M] ?_; (with_reducible refine (Zbs.calls k1 _ _ (Zah l0 a) x _ ?side1 ?side2 A8.out).mono ?_); (case side1 => exact cP (zO I.out HB.out)); (case side2 => exact J.out); rintro e O ⟨q, rfl, P, hb⟩; refine ⟨_, rfl, ?_⟩; replace b := mA (xB (sP b.out) (zV P) hb); have i := mA (zU P (Zao (bW))); replace HB := mA (Zaf (bW) hb); (try clear hb); (try clear hb2); (try clear hk); (try clear hi); (try clear P); have T : 0 ≤ (a : Int) := ofD; have U : (a : Int) < ((c.length : Int) : Int) := ofD; obtain ⟨g, W, X, Y, aD, aQ, aa⟩ := Kd.S_form b.out (by omega); (first | cases X | (injection X with ea_ en_ ec_; (first | subst ea_ | (injection ea_ with ea_; subst ea_)); subst ec_; clear en_)); have aE := mA Y; have aR := mA aa; clear Y aD aa; obtain ⟨_, aS, am, ab, B, D, _, _⟩ := Kd.S_elem b.out [] (a : Int) T U; obtain ⟨aI, rfl, aJ⟩ := ab; have ac := B 0 _ rfl; have ad := D 0; (try simp only [show ((Kd.slice 2 (Kd.int .i64))).sz = 1 from rfl, Nat.mul_one, Nat.add_zero] at ac); (try simp only [show ((Kd.slice 2 (Kd.int .i64))).sz = 1 from rfl, Nat.mul_one, Nat.add_zero] at ad); clear am B D; (try clear ab); replace T := eq_true T; replace U := eq_true U; have n_ := mA (zG (ok' := (fun k_ => some k_ ≠ (q : Value).ownBlock)) b.out (fun k_ hk => hk.2)); clear b; have b := n_; clear n_; have aF := mA (show Kd.S (Kd.slice 2 (Kd.int .i64)) 33 O w.heap.size (fun k_ => ((fun _ => True)) k_ ∧ ¬ ((fun k_ => some k_ = (q : Value).ownBlock)) k_) (.slice (some ⟨g, 0, none⟩) c.length W) c from (by (with_reducible repeat (first | apply zH | apply zI | apply zF)); exact zG b.out (fun k_ hk => ⟨trivial, fun e_ => hk e_⟩))); obtain ⟨aN, aT, an, ae, E, G, af, ag⟩ := Kd.S_elem aF.out [] (a : Int) (ofD) (by have h_ : (a : Int) < ((c.length : Int) : Int) := ofD; first | exact h_ | (have e_ := (zW b.out).1; omega) | simpa using h_); obtain ⟨aK, rfl, aL⟩ := ae; have s := Kd.S_seg ag (ofD) (by have h_ : (a : Int) < ((c.length : Int) : Int) := ofD; first | exact h_ | (have e_ := (zW b.out).1; omega) | simpa using h_) (seg := [q]) (j := 0) (show 1 ≤ 1 from by decide) (x' := x) (Kd.M_row (zC (Kd.R_tight rfl (zC (ok' := fun k_ => ((fun _ => True)) k_ ∧ k_ ≠ g) (xI (i.out) (yG b.out) (by decide)) (fun k_ hk => ⟨trivial, fun e_ => (hk.2) (by rw [e_]; rfl)⟩))) (fun _ h_ => Or.inr (h_)))) (fun _ hk => hk) (fun k_ hk_ => ((zC (ok' := fun k_ => ((fun _ => True)) k_ ∧ k_ ≠ g) (xI (i.out) (yG b.out) (by decide)) (fun k_ hk => ⟨trivial, fun e_ => (hk.2) (by rw [e_]; rfl)⟩))).1 k_ hk_.symm); have ah := E 0 _ rfl; (try simp only [show ((Kd.slice 2 (Kd.int .i64))).sz = 1 from rfl, Nat.mul_one, Nat.add_zero] at ah); have ai := G 0; (try simp only [show ((Kd.slice 2 (Kd.int .i64))).sz = 1 from rfl, Nat.mul_one, Nat.add_zero] at ai); clear an E G; (try clear ae); clear af ag; (try simp only [show ((Kd.slice 2 (Kd.int .i64))).sz = 1 from rfl, Nat.mul_one, Nat.add_zero] at s)) | ((with_reducible refine Zbh (t := 33) (p := 21) rfl ?_); refine Zc8 (t := 33) (p := 21) (v := ?vo_w13) (w1 := (O.setCell ⟨g, (a : Int).toNat, none⟩ (q))) ?hg ?ho ?hn ?hr ?_; (case ho => rfl); (case hg => rfl); (case hn => rfl); (case hr => first | (go_simp; done) | (go_simp; rfl) | (obtain ⟨aU, aV, aG⟩ := zN (i.out); subst aG; first | (go_simp; done) | (go_simp; rfl))); intro aj hw; have hg : O.grownBy aj (some g) := (by rw [hw]; exact s.2); have hp_ : Kd.S (Kd.slice 2 (Kd.int .i64)) 33 aj w.heap.size (fun _ => True) (.slice (some ⟨g, 0, none⟩) c.length W) K := (by rw [hw, al.out]; exact s.1); clear s; replace b := mA (hp_); replace HB := mA ((by rw [hw]; exact Za8 (HB.out) aE.out : Below w.heap.size w aj)); clear i hg hw hp_))
   go_roundg k1
   case measure => have := ar.out; omega
   case rel => exact ⟨(K), (wrap64 (a + 1)), (eW), H', ⟨by have := ar.out; omega⟩, ⟨sP b.out⟩, ⟨bW⟩⟩
def Zbp.f (k : Nat) (a : Int) (b : Int) (c : Int) (d : List (List Int)) : Option (Int × Int × Int × (List (List Int))) := (Zbm.f k d).bind fun e => (some (a, b, c, e))
theorem Zbp.calls (k : Nat) (d : Int) (j : Int) (n : Int) (r : Option Addr) (s : Nat) (l : List (List Int)) (r1 : Int) (r2 : Int) (r3 : Int) (r4 : List (List Int)) (w : World) (D : Kd.C (Kd.slice 2 (Kd.int .i64)) w r l.length l) (E : l.length ≤ s) (h : Zbp.f k d j n l = some (r1, r2, r3, r4)) :
  Calls Try.prog 11 #[.agg #[.int .i64 d, .int .i64 j, .int .i64 n, .slice r l.length s]] w fun e w' => ∃ M : Value, e = .returned (.agg #[.int .i64 r1, .int .i64 r2, .int .i64 r3, M]) ∧ Kd.S (Kd.slice 2 (Kd.int .i64)) 33 w' w.heap.size (fun _ => True) M r4 ∧ Below w.heap.size w w' := by
 have aK := Try.underlying24
 have aL := Try.underlying26
 have J := mA D
 have K := mA E
 clear D E
 have HB := mA (Below.refl w.heap.size w)
 unfold Zbp.f at h
 have H := h
 clear h
 replace H := bE H
 obtain ⟨u, O, H⟩ := H
 have A2 := mA O
 clear O
 simp only [Option.some.injEq, Prod.mk.injEq] at H
 obtain ⟨rfl, rfl, rfl, rfl⟩ := H
 go_enter Try.func11, Try.ntmps11
 go_wp2_with (first | ((with_reducible refine Zar (N := 1) rfl ?_); refine boxS (N := 1) (cs := #[.int .i64 d, .int .i64 j, .int .i64 n, .slice r l.length s]) (t := 24) ?_; intro L hg w3 hbox hb; have a := mA (hbox); have aE := geW (w := w) hg; have aF := geW (w := w) hg; replace HB := mA (Zaf (bW) hb); clear hb hbox hg) | ((with_reducible refine Zar (N := 2) rfl ?_); refine boxS (N := 2) (cs := #[.int .i64 0, .int .i64 0, .int .i64 0, .slice none 0 0]) (t := 26) ?_; intro q hg w4 hbox hb; have b := mA (hbox); have aG := geW (w := w) hg; have aH := geW (w := w) hg; replace HB := mA (Zaf (bW) hb); have v := mA (neB hg a); have x := mA (neC hg a); replace a := mA (blkB a.out hb); clear hb hbox hg) | ((with_reducible refine Zar (N := 3) rfl ?_); refine boxS (N := 3) (cs := #[.int .i64 0, .int .i64 0, .int .i64 0, .slice none 0 0]) (t := 26) ?_; intro G hg w5 hbox hb; have m := mA (hbox); have aI := geW (w := w) hg; have aJ := geW (w := w) hg; replace HB := mA (Zaf (bW) hb); have i := mA (neB hg a); have y := mA (neC hg a); replace a := mA (blkB a.out hb); have c := mA (neB hg b); have z := mA (neC hg b); replace b := mA (blkB b.out hb); clear hb hbox hg; have aM := v.out; have aN := x.out; have aO := i.out; have aP := y.out; obtain ⟨aw, ax, ay, az⟩ := Zaz a.out; obtain ⟨aA, aB, aC, aD⟩ := frz4 a.out; have aQ := z.out; have aR := c.out; obtain ⟨U, W, X, Y⟩ := Zaz m.out; obtain ⟨aa, ab, ac, ad⟩ := frz4 m.out) | ((with_reducible refine Zat (f := 41) rfl ?_); refine Zbi (some 15) Try.func41 #[.slice r l.length s] ?_; (with_reducible refine (Zbm.calls k _ _ l u _ ?side1 ?side2 A2.out).mono ?_); (case side1 => exact zO J.out (bW)); (case side2 => exact K.out); rintro e aT ⟨aS, rfl, P, hb⟩; refine ⟨_, rfl, ?_⟩; have I := mA (yM P (Zao (bW))); replace a := mA (Zbc (g := L) (o := .cells #[.int .i64 d, .int .i64 j, .int .i64 n, .slice r l.length s] 24 (0, 0)) (by (with_reducible repeat (first | refine Zac ?_ _ | refine Zab ?_ | refine Zaa ?_ _)); refine Zal ?_ i.out _; (with_reducible repeat (first | refine Zac ?_ _ | refine Zab ?_ | refine Zaa ?_ _)); refine Zal ?_ i.out _; (with_reducible repeat (first | refine Zac ?_ _ | refine Zab ?_ | refine Zaa ?_ _)); refine Zal ?_ i.out _; exact bP a.out) hb); replace b := mA (Zbc (g := q) (o := .cells #[.int .i64 0, .int .i64 0, .int .i64 0, .slice none 0 0] 26 (0, 0)) (by (with_reducible repeat (first | refine Zac ?_ _ | refine Zab ?_ | refine Zaa ?_ _)); refine Zal ?_ c.out _; (with_reducible repeat (first | refine Zac ?_ _ | refine Zab ?_ | refine Zaa ?_ _)); refine Zal ?_ c.out _; (with_reducible repeat (first | refine Zac ?_ _ | refine Zab ?_ | refine Zaa ?_ _)); refine Zal ?_ c.out _; exact bP b.out) hb); replace m := mA (Zbc (g := G) (o := .cells #[.int .i64 d, .int .i64 j, .int .i64 n, .slice none 0 0] 26 (0, 0)) (by (with_reducible repeat (first | refine Zac ?_ _ | refine Zab ?_ | refine Zaa ?_ _)); refine Zap (cs := #[.int .i64 d, .int .i64 j, .int .i64 0, .slice none 0 0]) ?_ 2 _ rfl; (with_reducible repeat (first | refine Zac ?_ _ | refine Zab ?_ | refine Zaa ?_ _)); refine Zap (cs := #[.int .i64 d, .int .i64 0, .int .i64 0, .slice none 0 0]) ?_ 1 _ rfl; (with_reducible repeat (first | refine Zac ?_ _ | refine Zab ?_ | refine Zaa ?_ _)); refine Zap (cs := #[.int .i64 0, .int .i64 0, .int .i64 0, .slice none 0 0]) ?_ 0 _ rfl; exact bP m.out) hb); replace HB := mA (Zaf (bW) hb); (try clear hb); (try clear hb2); (try clear hk); (try clear hi); (try clear P); obtain ⟨A, B, T⟩ := yC I.out; subst T; obtain ⟨ae, af, ag, ah⟩ := Zaz m.out; obtain ⟨ai, aj, ak, al⟩ := frz4 m.out; obtain ⟨am, an, ao, ap⟩ := Zaz b.out; obtain ⟨aq, ar, au, av⟩ := frz4 b.out))
 refine bodyPost_ret (results_cell_row rfl _ _ q 26 #[.int .i64 d, .int .i64 j, .int .i64 n, .slice A u.length B] (0, 0) _ rfl (by (with_reducible repeat (first | refine Zac ?_ _ | refine Zab ?_ | refine Zaa ?_ _)); refine Zap (cs := #[.int .i64 d, .int .i64 j, .int .i64 n, .slice none 0 0]) ?_ 3 _ rfl; (with_reducible repeat (first | refine Zac ?_ _ | refine Zab ?_ | refine Zaa ?_ _)); refine Zap (cs := #[.int .i64 d, .int .i64 j, .int .i64 0, .slice none 0 0]) ?_ 2 _ rfl; (with_reducible repeat (first | refine Zac ?_ _ | refine Zab ?_ | refine Zaa ?_ _)); refine Zap (cs := #[.int .i64 d, .int .i64 0, .int .i64 0, .slice none 0 0]) ?_ 1 _ rfl; (with_reducible repeat (first | refine Zac ?_ _ | refine Zab ?_ | refine Zaa ?_ _)); refine Zap (cs := #[.int .i64 0, .int .i64 0, .int .i64 0, .slice none 0 0]) ?_ 0 _ rfl; (with_reducible repeat (first | refine Zac ?_ _ | refine Zab ?_ | refine Zaa ?_ _)); refine Zal ?_ c.out _; exact bP b.out) Try.underlying26 rfl (by kernel_rfl)) rfl ?_
 exact ⟨_, eW, by (with_reducible repeat (first | apply zH | apply zI | apply zF)); exact zG (zA (p := ⟨q, 3, none⟩) (zA (p := ⟨q, 2, none⟩) (zA (p := ⟨q, 1, none⟩) (zA (p := ⟨q, 0, none⟩) (zA (p := ⟨G, 3, none⟩) (zR (zR I.out m.out (by decide)) b.out (by decide)) (fun _ hk => hk.1.2) (.slice A u.length B)) (fun _ hk => hk.2) (.int .i64 d)) (fun _ hk => hk.2) (.int .i64 j)) (fun _ hk => hk.2) (.int .i64 n)) (fun _ hk => hk.2) (.slice A u.length B)) (fun _ hk => trivial), bW⟩
def Zbv.f (l0 : List (List Int)) : Option (Int) := some (l0.length : Int)
theorem Zbv.calls (A0 : Option Addr) (c0 : Nat) (l0 : List (List Int)) (r : Int) (w : World) (a : Kd.C (Kd.slice 2 (Kd.int .i64)) w A0 l0.length l0) (b : l0.length ≤ c0) (h : Zbv.f l0 = some r) :
  Calls Try.prog 59 #[.slice A0 l0.length c0] w fun e w' => e = .returned (.int .i64 r) ∧ Zas w w' := by
 have c := mA a
 have d := mA b
 clear a b
 unfold Zbv.f at h
 have H := h
 clear h
 obtain rfl := oI H
 go_enter Try.func59, Try.ntmps59
 go_wp2
 go_ret
 exact ⟨eW, by repeat (first | exact Zas.refl _ | apply Zas.step)⟩
def Zb2.f (a0 : Int) (a1 : Int) (a2 : Int) : Option (Bool) := if a1 ≤ a0 then (some (decide (a0 ≤ a2))) else (some false)
theorem Zb2.calls (a0 : Int) (a1 : Int) (a2 : Int) (r : Bool) (w : World) (h : Zb2.f a0 a1 a2 = some r) :
  Calls Try.prog 84 #[.int .i64 a0, .int .i64 a1, .int .i64 a2] w fun e w' => e = .returned (.bool r) ∧ Zas w w' := by
 unfold Zb2.f at h
 have H := h
 clear h
 by_cases c4 : a1 ≤ a0
 ·rw [if_pos c4] at H
  have a := dT c4
  clear c4
  obtain rfl := oI H
  go_enter Try.func84, Try.ntmps84
  go_wp2
  go_ret
  exact ⟨eW, by repeat (first | exact Zas.refl _ | apply Zas.step)⟩
 ·rw [if_neg c4] at H
  have a := dF c4
  clear c4
  obtain rfl := oI H
  go_enter Try.func84, Try.ntmps84
  go_wp2
  go_ret
  exact ⟨eW, by repeat (first | exact Zas.refl _ | apply Zas.step)⟩
def Zc2.f (a0 : Int) : Option (Int) := if 0 ≤ a0 then (some (shl .i64 1 a0)) else (none)
theorem Zc2.calls (a0 : Int) (r : Int) (w : World) (h : Zc2.f a0 = some r) :
  Calls Try.prog 71 #[.int .i64 a0] w fun e w' => e = .returned (.int .i64 r) ∧ Zas w w' := by
 unfold Zc2.f at h
 have H := h
 clear h
 by_cases c2 : 0 ≤ a0; rotate_left
 ·rw [if_neg c2] at H
  exact absurd H (by simp)
 rw [if_pos c2] at H
 have l := eq_true c2
 have m := dT c2
 clear c2
 obtain ⟨a, b⟩ : ∃ j_ : Int, (shl .i64 1 a0) = j_ := ⟨_, rfl⟩
 replace H : (some a) = some r := by first | (rw [b] at H; exact H) | (simp only [b] at H ⊢; exact H)
 have c : (IntKind.i64.wrap (1 * 2 ^ min a0.toNat 64)) = a := b
 have d : a0 ≤ 64 → (IntKind.i64.wrap (1 * 2 ^ a0.toNat)) = a := shl_small b
 have g : (IntKind.i64.wrap (2 ^ min a0.toNat 64)) = a := by have h_ := c; rw [Int.one_mul] at h_; exact h_
 have i : a0 ≤ 64 → (IntKind.i64.wrap (2 ^ a0.toNat)) = a := fun hle_ => by have h_ := d hle_; rw [Int.one_mul] at h_; exact h_
 have j : (wrap64 (1 * 2 ^ min a0.toNat 64)) = a := (i64_w _).symm.trans c
 have k : a0 ≤ 64 → (wrap64 (1 * 2 ^ a0.toNat)) = a := fun h_ => (i64_w _).symm.trans (d h_)
 obtain rfl := oI H
 go_enter Try.func71, Try.ntmps71
 go_wp2
 go_ret
 exact ⟨by first | rfl | (simp; done) | (simp only [← b] <;> (first | rfl | simp)) | (simp [*]; done), by repeat (first | exact Zas.refl _ | apply Zas.step)⟩
def Zc1.f (a0 : Int) (a1 : Int) : Option (Bool) := (Zb2.f a1 0 24).bind fun a => (if a = true then ((Zc2.f a1).bind fun b => ((Zb2.f a0 0 (wrap64 (b - 1))).bind fun c => (some c))) else (some false))
theorem Zc1.calls (a0 : Int) (a1 : Int) (r : Bool) (w : World) (h : Zc1.f a0 a1 = some r) :
  Calls Try.prog 85 #[.int .i64 a0, .int .i64 a1] w fun e w' => e = .returned (.bool r) ∧ Zas w w' := by
 unfold Zc1.f at h
 have H := h
 clear h
 replace H := bE H
 obtain ⟨g, b, H⟩ := H
 have A3 := mA b
 clear b
 by_cases c4 : g = true; rotate_left
 ·replace c4 := Bool.eq_false_iff.mpr c4
  subst c4
  rw [iF] at H
  obtain rfl := oI H
  go_enter Try.func85, Try.ntmps85
  go_wp2_with (first | ((with_reducible refine Zat (f := 84) rfl ?_); refine Zbi (some 6) Try.func84 #[.int .i64 a1, .int .i64 0, .int .i64 24] ?_; (with_reducible refine (Zb2.calls a1 0 24 false _ A3.out).mono ?_); rintro e w' ⟨rfl, ⟨nd, rfl⟩⟩; refine ⟨_, rfl, ?_⟩))
  go_ret
  exact ⟨eW, by repeat (first | exact Zas.refl _ | apply Zas.step)⟩
 subst c4
 rw [if_pos rfl] at H
 replace H := bE H
 obtain ⟨a, c, H⟩ := H
 have A5 := mA c
 clear c
 replace H := bE H
 obtain ⟨i, d, H⟩ := H
 have A6 := mA d
 clear d
 obtain rfl := oI H
 go_enter Try.func85, Try.ntmps85
 go_wp2_with (first | ((with_reducible refine Zat (f := 84) rfl ?_); refine Zbi (some 6) Try.func84 #[.int .i64 a1, .int .i64 0, .int .i64 24] ?_; (with_reducible refine (Zb2.calls a1 0 24 true _ A3.out).mono ?_); rintro e w' ⟨rfl, ⟨nd, rfl⟩⟩; refine ⟨_, rfl, ?_⟩) | (go_at_call 71; (with_reducible refine (Zc2.calls a1 a _ A5.out).mono ?_); rintro e w' ⟨rfl, ⟨nd, rfl⟩⟩) | (go_at_call 84; (with_reducible refine (Zb2.calls a0 0 (wrap64 (a - 1)) i _ A6.out).mono ?_); rintro e w' ⟨rfl, ⟨nd, rfl⟩⟩))
 go_ret
 exact ⟨eW, by repeat (first | exact Zas.refl _ | apply Zas.step)⟩
def Zci.f (l0 : List Int) : Option (Int) := some (l0.length : Int)
theorem Zci.calls (A0 : Option Addr) (c0 : Nat) (l0 : List Int) (r : Int) (w : World) (a : Kd.C (Kd.int .i64) w A0 l0.length l0) (b : l0.length ≤ c0) (h : Zci.f l0 = some r) :
  Calls Try.prog 87 #[.slice A0 l0.length c0] w fun e w' => e = .returned (.int .i64 r) ∧ Zas w w' := by
 have c := mA a
 have d := mA b
 clear a b
 unfold Zci.f at h
 have H := h
 clear h
 obtain rfl := oI H
 go_enter Try.func87, Try.ntmps87
 go_wp2
 go_ret
 exact ⟨eW, by repeat (first | exact Zas.refl _ | apply Zas.step)⟩
end Go.Proofs.Ytgindgodfcfgkaa.P
end M0
section M1
namespace Go.Proofs.Ytgindgodfcfgkaa.P
open Go.RowKit Go.Proofs.Ytgindgodfcfgkaa.Sh Go.Proofs.YtgindgodfcfgkaaW.PrintWords Go.Proofs.YtgindgodfcfgkaaW.PrintLast Go.Proofs.YtgindgodfcfgkaaW.PrintMore
open Kd
attribute [local go_sem] Zcf Zcc Zcn Zcp Zb5 Zb3 Zcd Zcb   -- for this text's walks alone
set_option linter.unusedVariables false
set_option linter.unusedSimpArgs false
/-- Where the first element of which p holds lies, or -1. -/
def fidx {α : Type} (p : α → Bool) (l : List α) : Int := match l.findIdx? p with | some i => i | none => -1
theorem fidx_hit {α : Type} {p : α → Bool} {l : List α} {k : Nat} (hk : k < l.length) (h : p l[k] = true) (hb : ∀ j (hj : j < k), p (l[j]'(by omega)) = false) : fidx p l = k := by
  have : l.findIdx? p = some k := by
    rw [List.findIdx?_eq_some_iff_getElem]
    exact ⟨hk, h, fun j hj => by simp [hb j hj]⟩
  unfold fidx; rw [this]
theorem fidx_miss {α : Type} {p : α → Bool} {l : List α} (hb : ∀ j (hj : j < l.length), p l[j] = false) : fidx p l = -1 := by
  have : l.findIdx? p = none := by
    rw [List.findIdx?_eq_none_iff]
    intro x hx
    obtain ⟨j, hj, rfl⟩ := List.getElem_of_mem hx
    exact hb j hj
  unfold fidx; rw [this]
theorem fidx_nonneg {α : Type} (p : α → Bool) (l : List α) : decide (0 ≤ fidx p l) = l.any p := by
  unfold fidx
  cases h : l.findIdx? p with
  | none =>
    rw [List.findIdx?_eq_none_iff] at h
    have : l.any p = false := by rw [List.any_eq_false]; intro x hx; simp [h x hx]
    rw [this]; rfl
  | some i =>
    rw [List.findIdx?_eq_some_iff_getElem] at h
    obtain ⟨hi, hp, _⟩ := h
    have : l.any p = true := List.any_eq_true.2 ⟨_, List.getElem_mem hi, hp⟩
    rw [this]
    show decide (0 ≤ (i : Int)) = true
    simp
theorem rd_get {l : List Int} {k : Nat} (hk : k < l.length) : rd l (k : Int) = l[k] := by
  unfold rd; rw [List.getD_eq_getElem?_getD, Int.toNat_natCast, List.getElem?_eq_getElem hk]; rfl
def mfind {K V : Type} [DecidableEq K] : List (K × V) → K → Nat → Option (Nat × V)
  | [], _, _ => none
  | p :: l, k, i => if k = p.1 then some (i, p.2) else mfind l k (i + 1)
def mget {K V : Type} [DecidableEq K] (z : V) (L : List (K × V)) (k : K) : V := ((mfind L k 0).map (·.2)).getD z
def mhas {K V : Type} [DecidableEq K] (L : List (K × V)) (k : K) : Bool := (mfind L k 0).isSome
def mset {K V : Type} [DecidableEq K] (L : List (K × V)) (k : K) (v : V) : List (K × V) := match mfind L k 0 with
  | some (i, _) => L.set i (k, v)
  | none => L ++ [(k, v)]
def mentry {K V : Type} (eK : K → Value) (eV : V → Value) (p : (K × V) × Nat) : MapEntry := { key := eK p.1.1, val := eV p.1.2, born := p.2 }
def mobj {K V : Type} (eK : K → Value) (eV : V → Value) (L : List (K × V)) : Obj := .map (L.zipIdx.map (mentry eK eV)).toArray L.length
/-- A kind of keys that are told apart at once. -/
structure MKey (K : Type) [DecidableEq K] (eK : K → Value) (d : TypeDesc) : Prop where
  same : ∀ a b, Instr.sameNow d (eK a) (eK b) = some (decide (a = b))
  check : ∀ (P : Program) (t : TypeId) (e : Bool) (a : K) (W : World), P.underlying t = some d → (Instr.checkKey e 10000 t (eK a)).run P W = .ok () W
  bits : ∀ a, Instr.sameBits 10000 (eK a) (eK a) = true
theorem mkey_int (k : IntKind) : MKey Int (Value.int k) (.int k) where
  same a b := by
    simp only [Instr.sameNow, if_true]
    rfl
  check P t e a W h := by
    rw [Instr.checkKey]
    simp [run_underlying h, Result.andThen]
  bits a := by simp [Instr.sameBits]
theorem mkey_str : MKey ByteArray Value.string .string where
  same a b := by
    simp only [Instr.sameNow]
    congr 1
    rw [Bool.eq_iff_iff, MapKept.bytes_beq, decide_eq_true_iff]
  check P t e a W h := by
    rw [Instr.checkKey]
    simp [run_underlying h, Result.andThen]
  bits a := by
    rw [Instr.sameBits]
    exact (MapKept.bytes_beq a a).2 rfl
section
variable {K V : Type} [DecidableEq K] {eK : K → Value} {eV : V → Value} {d : TypeDesc}
theorem mfind_run (hk : MKey K eK d) (k : K) : ∀ (L : List (K × V)) (i j : Nat), Instr.findNow d (eK k) ((L.zipIdx i).map (mentry eK eV)) j = some ((mfind L k j).map fun p => (p.1, eV p.2))
  | [], _, _ => rfl
  | p :: L, i, j => by
    rw [List.zipIdx_cons, List.map_cons, Instr.findNow]
    simp only [mentry]
    rw [hk.same]
    unfold mfind
    by_cases h : k = p.1
    · rw [if_pos h, decide_eq_true h]
      rfl
    · rw [if_neg h, decide_eq_false h]
      exact mfind_run hk k L (i + 1) (j + 1)
theorem mfind_lt (k : K) : ∀ (L : List (K × V)) (j i : Nat) (v : V), mfind L k j = some (i, v) → j ≤ i ∧ L[i - j]? = some (k, v)
  | [], _, _, _, h => by simp [mfind] at h
  | p :: L, j, i, v, h => by
    unfold mfind at h
    by_cases hc : k = p.1
    · rw [if_pos hc] at h
      simp only [Option.some.injEq, Prod.mk.injEq] at h
      obtain ⟨rfl, rfl⟩ := h
      exact ⟨Nat.le_refl _, by simp [hc]⟩
    · rw [if_neg hc] at h
      obtain ⟨h1, h2⟩ := mfind_lt k L (j + 1) i v h
      refine ⟨by omega, ?_⟩
      rw [show i - j = (i - (j + 1)) + 1 by omega, List.getElem?_cons_succ]
      exact h2
variable {P : Program} {W : World} {g : Nat} {L : List (K × V)} {t kt et : TypeId}
theorem mlook_run (hk : MKey K eK d) (hb : W.heap[g]? = some (mobj eK eV L)) (ht : P.underlying t = some (.map kt et)) (hd : P.underlying kt = some d) {z : V} (hz : (zeroValue et).run P W = .ok (eV z) W) (k : K) :
    (Instr.lookup t (.map (some g)) (eK k) true).run P W = .ok (.tuple #[eV (mget z L k), .bool (mhas L k)]) W := by
  have hf := mfind_run hk (eV := eV) k L 0 0
  have hd' : Instr.findNow d (eK k) (L.zipIdx.map (mentry eK eV)).toArray.toList 0 = some ((mfind L k 0).map fun p => (p.1, eV p.2)) := hf
  unfold mget mhas
  cases hm : mfind L k 0 with
  | none =>
    rw [hm] at hd'
    simp only [Option.map_none] at hd'
    simp [Instr.lookup, Instr.findKey, run_underlying ht, run_underlying hd, MapKept.run_getObj_map hb, hk.check P kt _ k W hd, hd', hz, Result.andThen]
  | some p =>
    rw [hm] at hd'
    simp only [Option.map_some] at hd'
    simp [Instr.lookup, Instr.findKey, run_underlying ht, run_underlying hd, MapKept.run_getObj_map hb, hk.check P kt _ k W hd, hd', Result.andThen]
end
section
variable {K V : Type} [DecidableEq K] {eK : K → Value} {eV : V → Value} {d : TypeDesc} {P : Program} {W : World} {g : Nat} {L : List (K × V)} {t kt et : TypeId}
theorem mset_run (hk : MKey K eK d) (hb : W.heap[g]? = some (mobj eK eV L)) (ht : P.underlying t = some (.map kt et)) (hd : P.underlying kt = some d) (k : K) (v : V) :
    (Instr.mapUpdate t (.map (some g)) (eK k) (eV v)).run P W = .ok () (ChangeMaps.setBlock W g (mobj eK eV (mset L k v))) := by
  have hf := mfind_run hk (eV := eV) k L 0 0
  have hd' : Instr.findNow d (eK k) (L.zipIdx.map (mentry eK eV)).toArray.toList 0 = some ((mfind L k 0).map fun p => (p.1, eV p.2)) := hf
  unfold mset
  cases hm : mfind L k 0 with
  | none =>
    rw [hm] at hd'
    simp only [Option.map_none] at hd'
    have e : mobj eK eV (L ++ [(k, v)]) = .map ((L.zipIdx.map (mentry eK eV)).toArray.push { key := eK k, val := eV v, born := L.length }) (L.length + 1) := by
      unfold mobj
      rw [List.zipIdx_append, List.map_append, List.length_append]
      simp [mentry]
    simp only [e]
    simp [Instr.mapUpdate, Instr.findKey, run_underlying ht, run_underlying hd, MapKept.run_getObj_map hb, hk.check P kt _ k W hd, hd', MapKept.run_setObj_map _ hb, Result.andThen, ChangeMaps.setBlock]
  | some p =>
    obtain ⟨i, u⟩ := p
    rw [hm] at hd'
    simp only [Option.map_some] at hd'
    obtain ⟨_, hi⟩ := mfind_lt k L 0 i u hm
    rw [Nat.sub_zero] at hi
    obtain ⟨hil, hie⟩ := List.getElem?_eq_some_iff.1 hi
    have e : mobj eK eV (L.set i (k, v)) = .map ((L.zipIdx.map (mentry eK eV)).toArray.modify i fun e => { e with key := eK k, val := eV v }) L.length := by
      unfold mobj
      rw [List.length_set]
      congr 1
      apply Array.ext_getElem?
      intro j
      simp only [List.getElem?_toArray, Array.getElem?_modify, List.getElem?_map, List.getElem?_zipIdx, List.getElem?_set]
      by_cases hij : i = j
      · subst hij
        simp [hil, mentry]
      · simp [hij]
    have hstay : (Instr.keyThatStays (eK k) (eK k)).run P W = .ok (eK k) W := by
      simp [Instr.keyThatStays, hk.bits]
    simp only [e]
    simp [Instr.mapUpdate, Instr.findKey, run_underlying ht, run_underlying hd, MapKept.run_getObj_map hb, hk.check P kt _ k W hd, hd', hi, show (mentry eK eV ((k, u), i)).key = eK k from rfl, hstay, MapKept.run_setObj_map _ hb, Result.andThen, ChangeMaps.setBlock]
end
section
variable {K V : Type} {eK : K → Value} {eV : V → Value} {d : TypeDesc} {P : Program} {W : World} {t kt et : TypeId}
variable {ops : Array Oper} {o : Oper} {rest : List Oper} {a : Act} {Q : Exit → Act → World → Prop} {Kc : Act → World → Prop}
theorem gate_mset {p k v : Operand} (_ho : o.op = .mapUpdate t p k v) (h : wpList P ops Q (o :: rest) a W) : wpList P ops Q (o :: rest) a W := h
theorem mapS_step (eK : K → Value) (eV : V → Value) (hw : Region.wanted o (yielded ops a.tmps) = true)
    (h : ∀ g, g = W.heap.size → ∀ w1, w1.heap[g]? = some (mobj eK eV ([] : List (K × V))) → Below W.heap.size W w1 → Kc (a.put o.dst (.map (some g))) w1)
    (ho : o.op = .makeMap t none := by rfl) : if Region.wanted o (yielded ops a.tmps) = true then Oper.wp P o a W Kc Q else Kc (a.put o.dst undef) W :=
  event_step hw (show (execOp a.eval o).run P W = .ok (.value (.map (some W.heap.size))) (W.alloc (.map #[] 0)) by simp [execOp, ho, run_makeMap, Result.andThen]) (h _ rfl _ (blk_new W _) (Zbb (Below.refl _ _) _))
theorem mgetS [DecidableEq K] {g : Nat} {L : List (K × V)} (z : V) (k : K) {m x : Operand} (hk : MKey K eK d) (hb : W.heap[g]? = some (mobj eK eV L)) (ht : P.underlying t = some (.map kt et)) (hd : P.underlying kt = some d) (hz : (zeroValue et).run P W = .ok (eV z) W)
    (h : wpList P ops Q rest (a.put o.dst (.tuple #[eV (mget z L k), .bool (mhas L k)])) W)
    (ho : o.op = .lookup t m x true := by rfl) (hgd : o.guard = none := by rfl) (hm : a.eval m = .map (some g) := by first | rfl | (go_simp; done) | (go_simp; rfl)) (hx : a.eval x = eK k := by first | rfl | (go_simp; done) | (go_simp; rfl)) : wpList P ops Q (o :: rest) a W := by
  refine wpList_plain hgd fun K' hK' => ?_
  unfold Oper.wp
  simp [execOp, ho, hm, hx, mlook_run hk hb ht hd hz k, Result.andThen]
  exact hK' _ _ h
theorem mlenS {g : Nat} {L : List (K × V)} {m : Operand} (hb : W.heap[g]? = some (mobj eK eV L)) (ht : P.underlying t = some (.map kt et))
    (h : wpList P ops Q rest (a.put o.dst (.int .i64 (L.length : Int))) W)
    (ho : o.op = .call { callee := .builtin .len, args := #[m], argTypes := #[t] } := by rfl) (hgd : o.guard = none := by rfl) (hm : a.eval m = .map (some g) := by first | rfl | (go_simp; done) | (go_simp; rfl)) : wpList P ops Q (o :: rest) a W := by
  have hrun : (Builtin.len_ #[t] o.type #[.map (some g)]).run P W = .ok (.int .i64 (L.length : Int)) W := by
    simp [Builtin.len_, run_underlying ht, MapKept.run_getObj_map hb, goInt, Result.andThen]
  refine wpList_plain hgd fun K' hK' => ?_
  unfold Oper.wp
  simp [execOp, ho, resolve, invoke, builtin, hm, hrun, Result.andThen]
  exact hK' _ _ h
theorem msetS [DecidableEq K] {g : Nat} {L : List (K × V)} (k : K) (v : V) {m x y : Operand} (hk : MKey K eK d) (hb : W.heap[g]? = some (mobj eK eV L)) (ht : P.underlying t = some (.map kt et)) (hd : P.underlying kt = some d)
    (h : ∀ w2, w2.heap[g]? = some (mobj eK eV (mset L k v)) → W.grownBy w2 (some g) → wpList P ops Q rest a w2)
    (ho : o.op = .mapUpdate t m x y ∨ o.op = .insert t m x y := by first | exact Or.inl rfl | exact Or.inr rfl) (hN : o.dst = none := by rfl) (hgd : o.guard = none := by rfl) (hm : a.eval m = .map (some g) := by first | rfl | (go_simp; done) | (go_simp; rfl)) (hx : a.eval x = eK k := by first | rfl | (go_simp; done) | (go_simp; rfl)) (hy : a.eval y = eV v := by first | rfl | (go_simp; done) | (go_simp; rfl)) : wpList P ops Q (o :: rest) a W := by
  have hrun := mset_run (P := P) (t := t) (kt := kt) (et := et) hk hb ht hd k v
  have h2 := h _ (ChangeMaps.heap_setBlock_same hb _) ⟨rfl, rfl, rfl, by simp [ChangeMaps.setBlock], fun i _ hi => ChangeMaps.heap_setBlock_other hb _ (fun e => hi (by rw [e]))⟩
  refine wpList_plain hgd fun K' hK' => ?_
  unfold Oper.wp
  rcases ho with ho | ho
  · simp [execOp, ho, hm, hx, hy, hrun, Result.andThen]
    show K' (a.put o.dst undef) _
    rw [hN]
    exact hK' _ _ h2
  · simp [execOp, ho, hm, hx, hy, hrun, Result.andThen]
    show K' (a.put o.dst undef) _
    rw [hN]
    exact hK' _ _ h2
theorem msetS_step [DecidableEq K] {g : Nat} {L : List (K × V)} (k : K) (v : V) {m x y : Operand} (hw : Region.wanted o (yielded ops a.tmps) = true) (hk : MKey K eK d) (hb : W.heap[g]? = some (mobj eK eV L)) (ht : P.underlying t = some (.map kt et)) (hd : P.underlying kt = some d)
    (h : ∀ w2, w2.heap[g]? = some (mobj eK eV (mset L k v)) → W.grownBy w2 (some g) → Kc a w2) (hN : o.dst = none := by rfl)
    (ho : o.op = .mapUpdate t m x y ∨ o.op = .insert t m x y := by first | exact Or.inl rfl | exact Or.inr rfl) (hm : a.eval m = .map (some g) := by first | rfl | (go_simp; done) | (go_simp; rfl)) (hx : a.eval x = eK k := by first | rfl | (go_simp; done) | (go_simp; rfl)) (hy : a.eval y = eV v := by first | rfl | (go_simp; done) | (go_simp; rfl)) :
    if Region.wanted o (yielded ops a.tmps) = true then Oper.wp P o a W Kc Q else Kc (a.put o.dst undef) W := by
  have hrun := mset_run (P := P) (t := t) (kt := kt) (et := et) hk hb ht hd k v
  have h2 := h _ (ChangeMaps.heap_setBlock_same hb _) ⟨rfl, rfl, rfl, by simp [ChangeMaps.setBlock], fun i _ hi => ChangeMaps.heap_setBlock_other hb _ (fun e => hi (by rw [e]))⟩
  rw [if_pos hw]
  unfold Oper.wp
  rcases ho with ho | ho
  · simp [execOp, ho, hm, hx, hy, hrun, Result.andThen]
    show Kc (a.put o.dst undef) _
    rw [hN]
    exact h2
  · simp [execOp, ho, hm, hx, hy, hrun, Result.andThen]
    show Kc (a.put o.dst undef) _
    rw [hN]
    exact h2
end
/-- What is held beside a map that is written. -/
theorem Kd.R_mset {α K V : Type} {eK : K → Value} {eV : V → Value} {L : List (K × V)} {dd : Kd α} {e base g : Nat} {ok : Nat → Prop} {v : Value} {xs : List α} {W w2 : World} (h : dd.R e W base ok v xs) (hb : W.heap[g]? = some (mobj eK eV L)) (hg : W.grownBy w2 (some g)) : dd.R e w2 base ok v xs :=
  Kd.zC (Kd.xG (Kd.yT h) (fun k hk => hg.block k hk.2.2.1 (fun e_ => by
    obtain ⟨_, _, _, q, hq, cells, hc⟩ := hk
    injection e_ with e_
    subst e_
    rw [hb] at hc
    cases hc))) (fun _ hk => hk.1)
theorem Kd.S_mset {α K V : Type} {eK : K → Value} {eV : V → Value} {L : List (K × V)} {dd : Kd α} {e base g : Nat} {ok : Nat → Prop} {v : Value} {xs : List α} {W w2 : World} (h : Kd.S dd e W base ok v xs) (hb : W.heap[g]? = some (mobj eK eV L)) (hg : W.grownBy w2 (some g)) : Kd.S dd e w2 base ok v xs :=
  Kd.zG (Kd.S_move (Kd.S_bound h) (fun k hk => hg.block k hk.2.2.1 (fun e_ => by
    obtain ⟨_, _, _, q, hq, cells, hc⟩ := hk
    injection e_ with e_
    subst e_
    rw [hb] at hc
    cases hc))) (fun _ hk => hk.1)
theorem Kd.R_nem {α K V : Type} {eK : K → Value} {eV : V → Value} {L : List (K × V)} {dd : Kd α} {e base g : Nat} {ok : Nat → Prop} {v : Value} {xs : List α} {w : World} (h : dd.R e w base ok v xs) (hb : w.heap[g]? = some (mobj eK eV L)) : some g ≠ v.ownBlock := by
  intro e_
  obtain ⟨_, inner, ho, _⟩ := h
  obtain ⟨cells, hc⟩ := own_typed ho g e_.symm
  rw [hb] at hc
  cases hc
theorem Kd.S_nem {α K V : Type} {eK : K → Value} {eV : V → Value} {L : List (K × V)} {dd : Kd α} {e base g : Nat} {ok : Nat → Prop} {v : Value} {xs : List α} {w : World} (h : Kd.S dd e w base ok v xs) (hb : w.heap[g]? = some (mobj eK eV L)) : some g ≠ v.ownBlock := Kd.R_nem (Kd.S_R h) hb
theorem Zcm {w : World} {g : Nat} {o : Obj} (h : w.heap[g]? = some o) {p : Addr} (hp : g ≠ p.block) (u : Value) : (w.setCell p u).heap[g]? = some o := (Below.heap_setCell w p u g hp).trans h
theorem cell_mset {K V : Type} {eK : K → Value} {eV : V → Value} {L : List (K × V)} {W w2 : World} {g : Nat} (hg : W.grownBy w2 (some g)) (hb : W.heap[g]? = some (mobj eK eV L)) {p : Addr} {u : Value} (h : W.cell? p = some u) : w2.cell? p = some u :=
  hg.cell h (fun e_ => by
    injection e_ with e_
    unfold World.cell? at h
    rw [e_, hb] at h
    cases h)
def OwnZ (w : World) (base : Nat) (e : TypeId) (size : Nat) (v : Value) (n : Nat) (xs : List Value) : Prop :=
  xs.length = n * size ∧ ((v = .slice none 0 0 ∧ n = 0) ∨ ∃ g cap cur fz, v = .slice (some ⟨g, 0, none⟩) n cap ∧ base ≤ g ∧ w.heap[g]? = some (.cells cur e fz) ∧ (fz = (0, 0) ∨ cur.size ≤ fz.1) ∧ n ≤ cap ∧ cap ≤ maxLen ∧ cur.size = cap * size ∧ cur.toList.take (n * size) = xs)
/-- Elements without rows inside. -/
def Kd.Z {α : Type} (d : Kd α) (e : Nat) (w : World) (base : Nat) (ok : Nat → Prop) (v : Value) (xs : List α) : Prop :=
  (∀ k, v.ownBlock = some k → ok k) ∧ ∃ inner, OwnZ w base e d.sz v xs.length inner ∧ Reps (fun x cs => ∀ w' b' ok', d.M w' b' ok' x cs) d.sz xs inner
section
variable {α : Type} {d : Kd α} {e : Nat} {w W w1 : World} {base : Nat} {ok ok' : Nat → Prop} {v u : Value} {xs : List α}
theorem OwnZ.blk {size n : Nat} {inner : List Value} (h : OwnZ w base e size v n inner) : ∀ k, v.ownBlock = some k → base ≤ k ∧ ∃ cells fz, w.heap[k]? = some (.cells cells e fz) := by
  intro k hk
  rcases h.2 with ⟨rfl, _⟩ | ⟨g, cap, cur, fz, rfl, hg, hh, _⟩
  · simp [Value.ownBlock] at hk
  · have : g = k := by simpa [Value.ownBlock] using hk
    subst this
    exact ⟨hg, cur, fz, hh⟩
theorem OwnZ.move {size n : Nat} {inner : List Value} (h : OwnZ w base e size v n inner) (hm : ∀ k, v.ownBlock = some k → w1.heap[k]? = w.heap[k]?) : OwnZ w1 base e size v n inner := by
  refine ⟨h.1, ?_⟩
  rcases h.2 with h2 | ⟨g, cap, cur, fz, rfl, hg, hh, r⟩
  · exact .inl h2
  · exact .inr ⟨g, cap, cur, fz, rfl, hg, (hm g (by simp [Value.ownBlock])).trans hh, r⟩
theorem Kd.Z_typed (h : Kd.Z d e w base ok v xs) : ∀ k, v.ownBlock = some k → ∃ cells fz, w.heap[k]? = some (.cells cells e fz) := by
  obtain ⟨_, inner, ho, _⟩ := h
  exact fun k hk => (ho.blk k hk).2
theorem Kd.Z_base (h : Kd.Z d e w base ok v xs) : ∀ k, v.ownBlock = some k → base ≤ k := by
  obtain ⟨_, inner, ho, _⟩ := h
  exact fun k hk => (ho.blk k hk).1
theorem Kd.Z_lt (h : Kd.Z d e w base ok v xs) : ∀ k, v.ownBlock = some k → k < w.heap.size := by
  intro k hk
  obtain ⟨cells, fz, hc⟩ := Kd.Z_typed h k hk
  exact blk_lt hc
theorem Kd.Z_mono (h : Kd.Z d e w base ok v xs) (hok : ∀ k, ok k → ok' k) : Kd.Z d e w base ok' v xs := ⟨fun k hk => hok k (h.1 k hk), h.2⟩
theorem Kd.Z_step (h : Kd.Z d e w base ok v xs) (hm : ∀ k, v.ownBlock = some k → w1.heap[k]? = w.heap[k]?) : Kd.Z d e w1 base ok v xs := by
  obtain ⟨h0, inner, ho, hr⟩ := h
  exact ⟨h0, inner, ho.move hm, hr⟩
theorem Kd.Z_below (h : Kd.Z d e w base ok v xs) (hb : Below w.heap.size w w1) : Kd.Z d e w1 base ok v xs := Kd.Z_step h fun k hk => hb.block k (Kd.Z_lt h k hk)
theorem Kd.Z_alloc (h : Kd.Z d e w base ok v xs) (o : Obj) : Kd.Z d e (w.alloc o) base ok v xs := Kd.Z_below h (Zbb (Below.refl _ _) o)
theorem Kd.Z_drew (h : Kd.Z d e w base ok v xs) : Kd.Z d e w.drew base ok v xs := Kd.Z_below h (below_drew (Below.refl _ _))
theorem Kd.Z_drewN (h : Kd.Z d e w base ok v xs) (m : Nat) : Kd.Z d e (w.drewN m) base ok v xs := Kd.Z_below h (Za9 (Below.refl _ _) m)
theorem Kd.Z_lower {base' : Nat} (h : Kd.Z d e w base ok v xs) (hb : base' ≤ base) : Kd.Z d e w base' ok v xs := by
  obtain ⟨h0, inner, ⟨hl, hc⟩, hr⟩ := h
  refine ⟨h0, inner, ⟨hl, ?_⟩, hr⟩
  rcases hc with h2 | ⟨g, cap, cur, fz, hv, hg, r⟩
  · exact .inl h2
  · exact .inr ⟨g, cap, cur, fz, hv, Nat.le_trans hb hg, r⟩
theorem Kd.Z_elder' (h : Kd.Z d e W base ok u xs) (hbase : ∀ k, v.ownBlock = some k → W.heap.size ≤ k) (hb : Below W.heap.size W w1) : Kd.Z d e w1 base (fun k => ok k ∧ some k ≠ v.ownBlock) u xs := by
  have h1 := Kd.Z_below h hb
  exact ⟨fun k hk => ⟨h.1 k hk, fun e_ => by have := hbase k e_.symm; have := Kd.Z_lt h k hk; omega⟩, h1.2⟩
theorem Kd.Z_new' (h : Kd.Z d e w1 W.heap.size ok v xs) (hlt : ∀ k, u.ownBlock = some k → k < W.heap.size) : Kd.Z d e w1 W.heap.size (fun k => ok k ∧ some k ≠ u.ownBlock) v xs :=
  ⟨fun k hk => ⟨h.1 k hk, fun e_ => by have := hlt k e_.symm; have := Kd.Z_base h k hk; omega⟩, h.2⟩
theorem Kd.Z_after {v1 : Value} (h : Kd.Z d e W base (fun k => ok k ∧ some k ≠ v.ownBlock) u xs) (hg : W.grownBy w1 v.ownBlock) (hat : v1.ownBlock = v.ownBlock ∨ ∃ b, v1.ownBlock = some b ∧ W.heap.size ≤ b) : Kd.Z d e w1 base (fun k => ok k ∧ some k ≠ v1.ownBlock) u xs := by
  have h1 := Kd.Z_step (w1 := w1) h fun k hk => hg.block k (Kd.Z_lt h k hk) (h.1 k hk).2
  refine ⟨fun k hk => ⟨(h.1 k hk).1, ?_⟩, h1.2⟩
  rcases hat with hat | ⟨b, hb, hle⟩
  · rw [hat]; exact (h.1 k hk).2
  · rw [hb]
    intro he
    injection he with he
    have := Kd.Z_lt h k hk
    omega
theorem Kd.Z_over' {e' : Nat} (h : Kd.Z d e W base ok u xs) (hty : ∀ k, v.ownBlock = some k → ∃ cells, W.heap[k]? = some (.cells cells e' (0, 0))) (ht : ∀ q, q ∈ e :: d.E → q ≠ e') (hg : W.grownBy w1 v.ownBlock) : Kd.Z d e w1 base ok u xs := by
  refine Kd.Z_step h fun k hk => hg.block k (Kd.Z_lt h k hk) fun he => ?_
  obtain ⟨cells, fz, hc⟩ := Kd.Z_typed h k hk
  obtain ⟨cells', hc'⟩ := hty k he.symm
  rw [hc] at hc'
  injection hc' with hc'
  injection hc' with _ hc'
  exact ht e List.mem_cons_self hc'
theorem Kd.R_overZ' {β : Type} {d' : Kd β} {ys : List β} {e' : Nat} (h : d'.R e W base ok u ys) (hty : ∀ k, v.ownBlock = some k → ∃ cells fz, W.heap[k]? = some (.cells cells e' fz)) (ht : ∀ q, q ∈ e :: d'.E → q ≠ e') (hg : W.grownBy w1 v.ownBlock) : d'.R e w1 base ok u ys := by
  refine Kd.zC (Kd.xG (Kd.yT h) (fun k hk => hg.block k hk.2.2.1 (fun he => ?_))) (fun _ hk => hk.1)
  obtain ⟨_, _, _, q, hq, cells, hc⟩ := hk
  obtain ⟨cells', fz, hc'⟩ := hty k he.symm
  rw [hc] at hc'
  injection hc' with hc'
  injection hc' with _ hc'
  exact ht q hq hc'
theorem Kd.Z_ne (h : Kd.Z d e w base ok v xs) {g t : Nat} {cells : Array Value} (hb : w.heap[g]? = some (.cells cells t (0, 0))) (ht : e ≠ t) : some g ≠ v.ownBlock := by
  intro e_
  obtain ⟨cells, fz, hc⟩ := Kd.Z_typed h g e_.symm
  rw [hb] at hc
  injection hc with hc
  injection hc with _ hc
  exact ht hc.symm
theorem Kd.Z_nem {K V : Type} {eK : K → Value} {eV : V → Value} {L : List (K × V)} {g : Nat} (h : Kd.Z d e w base ok v xs) (hb : w.heap[g]? = some (mobj eK eV L)) : some g ≠ v.ownBlock := by
  intro e_
  obtain ⟨cells, fz, hc⟩ := Kd.Z_typed h g e_.symm
  rw [hb] at hc
  cases hc
theorem Kd.Z_mset {K V : Type} {eK : K → Value} {eV : V → Value} {L : List (K × V)} {g : Nat} {w2 : World} (h : Kd.Z d e W base ok v xs) (hb : W.heap[g]? = some (mobj eK eV L)) (hg : W.grownBy w2 (some g)) : Kd.Z d e w2 base ok v xs :=
  Kd.Z_step h fun k hk => hg.block k (Kd.Z_lt h k hk) fun e_ => Kd.Z_nem h hb (by rw [← e_]; exact hk.symm)
theorem Kd.Z_R (h : d.R e w base ok v xs) (hM : ∀ {w b ok x cs}, d.M w b ok x cs → ∀ w' b' ok', d.M w' b' ok' x cs) : Kd.Z d e w base ok v xs := by
  obtain ⟨h0, inner, ⟨hl, hc⟩, hr⟩ := h
  refine ⟨h0, inner, ⟨hl, ?_⟩, hr.imp_ fun _ _ hp => hM hp⟩
  rcases hc with h2 | ⟨g, cap, cur, hv, hg, hh, r⟩
  · exact .inl h2
  · exact .inr ⟨g, cap, cur, (0, 0), hv, hg, hh, .inl rfl, r⟩
theorem Kd.Z_slice (h : Kd.Z d e w base ok v xs) : ∃ A c, v = .slice A xs.length c := by
  obtain ⟨_, inner, ⟨_, hc⟩, _⟩ := h
  rcases hc with ⟨rfl, hn⟩ | ⟨g, cap, cur, fz, rfl, _⟩
  · exact ⟨none, 0, by rw [hn]⟩
  · exact ⟨_, cap, rfl⟩
theorem Kd.Z_reads' {A : Option Addr} {n c : Nat} (h : Kd.Z d e w base ok (.slice A n c) xs) : n = xs.length ∧ n ≤ c ∧ d.C w A xs.length xs := by
  obtain ⟨_, inner, ⟨hl, hc⟩, hr⟩ := h
  rcases hc with ⟨hv, hn⟩ | ⟨g, cap, cur, fz, hv, hg, hh, hz, hnc, hm, hs, ht⟩
  · injection hv with h1 h2 h3
    subst h1 h2 h3
    exact ⟨hn.symm, Nat.le_refl _, rfl, by omega, fun hp => by omega⟩
  · injection hv with h1 h2 h3
    subst h1 h2 h3
    refine ⟨rfl, hnc, rfl, by simp only [maxLen] at hm; omega, fun hp => ⟨_, rfl, fun j p hj => ?_⟩⟩
    have hjl : j < xs.length := (List.getElem?_eq_some_iff.1 hj).1
    have hMj := hr.2 j p hj
    have hKj : d.K w p ((inner.drop (j * d.sz)).take d.sz) := d.K_of_M (hMj w base ok)
    refine ⟨_, d.K_len hKj, hKj, fun i x hi => ?_⟩
    have hid : i < d.sz := by
      have := (List.getElem?_eq_some_iff.1 hi).1
      rw [List.length_take] at this
      omega
    rw [List.getElem?_take, if_pos hid, List.getElem?_drop, ← ht, List.getElem?_take] at hi
    have hadd : (⟨g, 0, none⟩ : Addr).add (j * d.sz + i) = ⟨g, j * d.sz + i, none⟩ := by unfold Addr.add; split <;> simp_all
    rw [hadd, cell_of_row w g _ cur e fz hh]
    split at hi
    · simpa using hi
    · cases hi
end
theorem storeCells_Z (P : Program) (g o : Nat) (t : TypeId) (fz : Nat × Nat) : ∀ (vs : List Value) (i : Nat) (cur : Array Value) (w : World), w.heap[g]? = some (.cells cur t fz) → (fz = (0, 0) ∨ cur.size ≤ fz.1) → o + i + vs.length ≤ cur.size → (∀ v ∈ vs, v.oneCell' = true) →
    (storeCells ⟨g, o, none⟩ vs i).run P w = .ok () (w.setRow g (cur.toList.take (o + i) ++ vs ++ cur.toList.drop (o + i + vs.length)).toArray)
  | [], i, cur, w, hg, _, _, _ => by
    simp only [storeCells, List.append_nil, List.length_nil, Nat.add_zero, List.take_append_drop, Array.toArray_toList]
    rw [setRow_self w g cur t fz hg]
    rfl
  | v :: rest, i, cur, w, hg, hfz, hl, h1 => by
    have hi : o + i < cur.size := by simp at hl; omega
    have hadd : (⟨g, o, none⟩ : Addr).add i = ⟨g, o + i, none⟩ := by unfold Addr.add; split <;> simp_all
    have hcell : w.cell? ⟨g, o + i, none⟩ = some cur[o + i] := by simp [World.cell?, hg, hi]
    have hfro : w.frozen? ⟨g, o + i, none⟩ = false := by
      obtain ⟨lo, hi'⟩ := fz
      simp only [World.frozen?, hg, Bool.and_eq_false_iff, decide_eq_false_iff_not]
      rcases hfz with hfz | hfz
      · right
        injection hfz with _ h2
        omega
      · left
        simp only at hfz
        omega
    have hst : (store ((⟨g, o, none⟩ : Addr).add i) v).run P w = .ok () (w.setRow g (cur.setIfInBounds (o + i) v)) := by
      rw [hadd, run_store P w _ v _ (h1 v (by simp)), hcell]
      simp [hfro, setCell_eq_setRow w g (o + i) cur t fz v hg]
    have ih := storeCells_Z P g o t fz rest (i + 1) (cur.setIfInBounds (o + i) v) (w.setRow g (cur.setIfInBounds (o + i) v)) (setRow_heap w g cur _ t _ hg) (by simpa using hfz) (by simp at hl ⊢; omega) (fun x hx => h1 x (by simp [hx]))
    simp only [storeCells, Sem.run_bind, hst, Result.andThen_ok, ih, setRow_setRow]
    congr 3
    have e := list_seg_step cur.toList (o + i) v rest (by simp at hl ⊢; omega)
    simpa [Array.toList_setIfInBounds, Nat.add_assoc] using e
theorem append_Z {P : Program} (w : World) (base : Nat) (t ty e : TypeId) (i : TypeInfo) (z : Value) (size bytes : Nat) (ht : P.underlying t = some (.slice e)) (hi : P.info? e = some i) (hz : i.zero = some z)
    (hsize : i.size = size) (hby : i.bytes = bytes) (hzs : z.cells.size = size) (hsz : 0 < size)
    (v : Value) (n : Nat) (xs : List Value) (hown : OwnZ w base e size v n xs)
    (a : Addr) (m c : Nat) (news : List Value) (hl : news.length = m * size) (hnews : ∀ j u, news[j]? = some u → w.cell? (a.add j) = some u) (h1 : ∀ u ∈ news, u.oneCell' = true)
    (b : n + m ≤ maxLen) (hbytes : (n + m) * bytes ≤ 140737488355328) (hbase : base ≤ w.heap.size) :
    ∃ v' w', (Builtin.append_ #[t, t] ty #[v, .slice (some a) m c]).run P w = .ok v' w' ∧ OwnZ w' base e size v' (n + m) (xs ++ news) ∧ w.grownBy w' v.ownBlock ∧ (v'.ownBlock = v.ownBlock ∨ v'.ownBlock = some w.heap.size) := by
  rcases hown.2 with ⟨rfl, rfl⟩ | ⟨g, cap, cur, fz, rfl, hbg, hg, hfz, hnc, hcm, hcs, htake⟩
  · obtain ⟨v', w', h2, ⟨h3, h4⟩, h5, _, h6⟩ := run_append_own_at (P := P) w base t ty e i z size bytes ht hi hz hsize hby hzs hsz (.slice none 0 0) 0 xs ⟨hown.1, .inl ⟨rfl, rfl⟩⟩ a m c news hl hnews h1 b hbytes hbase
    refine ⟨v', w', h2, ⟨h3, ?_⟩, h5, h6⟩
    rcases h4 with h4 | ⟨g, cap, cur, hv, hg, hh, r⟩
    · exact .inl h4
    · exact .inr ⟨g, cap, cur, (0, 0), hv, hg, hh, .inl rfl, r⟩
  · have hxl : xs.length = n * size := hown.1
    have hlen : (xs ++ news).length = (n + m) * size := by rw [List.length_append, hxl, hl, Nat.add_mul]
    have hsmall : n + m ≤ 9223372036854775807 := by simp only [maxLen] at b; omega
    by_cases hroom : n + m ≤ cap
    · have hfit : n * i.size + news.length ≤ cur.size := by rw [hsize, hl, hcs, ← Nat.add_mul]; exact Nat.mul_le_mul_right _ hroom
      have hf := run_firstCells_some (P := P) w i.size m a m c news (by rw [hsize]; exact hl) hnews
      have hst := storeCells_Z P g (n * i.size) e fz news 0 cur w hg hfz (by simpa using hfit) h1
      simp only [Nat.add_zero] at hst
      have hr : (Builtin.append_ #[t, t] ty #[.slice (some ⟨g, 0, none⟩) n cap, .slice (some a) m c]).run P w =
          .ok (.slice (some ⟨g, 0, none⟩) (n + m) cap) (w.setRow g (cur.toList.take (n * i.size) ++ news ++ cur.toList.drop (n * i.size + news.length)).toArray) := by
        simp [Builtin.append_, run_underlying ht, sizeOf, typeInfo, hi, Builtin.lenOf, hroom, hf, Addr.add_lit, hst]
      have hns : (cur.toList.take (n * i.size) ++ news ++ cur.toList.drop (n * i.size + news.length)).toArray.size = cur.size := by
        simp only [List.size_toArray, List.length_append, List.length_take, List.length_drop, Array.length_toList]
        omega
      refine ⟨_, _, hr, ⟨hlen, .inr ⟨g, cap, _, fz, rfl, hbg, setRow_heap w g cur _ e _ hg, by rw [hns]; exact hfz, hroom, hcm, by rw [hns]; exact hcs, ?_⟩⟩, ⟨rfl, rfl, rfl, by simp, fun k _ hk => setRow_other w g k _ (fun e => hk (by simp [Value.ownBlock, e]))⟩, .inl rfl⟩
      rw [hsize, htake, ← hlen]
      exact List.take_left
    · have holds : ∀ j u, xs[j]? = some u → w.cell? ((⟨g, 0, none⟩ : Addr).add j) = some u := by
        intro j u hu
        have hadd : (⟨g, 0, none⟩ : Addr).add j = ⟨g, j, none⟩ := by unfold Addr.add; split <;> simp_all
        rw [hadd, cell_of_row w g j cur e fz hg]
        rw [← htake, List.getElem?_take] at hu
        split at hu
        · simpa using hu
        · cases hu
      have hr := run_append_grow (P := P) w t ty e i z ht hi hz ⟨g, 0, none⟩ n cap xs (by rw [hsize]; exact hxl) holds a m c news (by rw [hsize]; exact hl) hnews (by omega) (by omega) (by rw [hby]; exact growslice_fits (by omega) hbytes)
      have hge := grownCap_ge w (n + m) cap e
      have d : grownCap w (n + m) cap e ≤ maxLen := grownCap_le_maxLen w (n + m) cap e b
      refine ⟨_, _, hr, ⟨hlen, .inr ⟨w.heap.size, _, _, (0, 0), rfl, hbase, heap_alloc_new w.drew _, .inl rfl, hge, d, ?_, ?_⟩⟩, ⟨rfl, rfl, rfl, by simp, fun k hk _ => heap_alloc_old w.drew _ hk⟩, .inr rfl⟩
      · simp only [Array.size_append, List.size_toArray, size_zeroCells, hzs, hxl, hl, ← Nat.add_mul]
        congr 1
        omega
      · simp only [Array.toList_append, List.append_assoc]
        rw [← List.append_assoc, ← hlen]
        exact List.take_left
section
variable {P : Program} {ops : Array Oper} {rest : List Oper} {o : Oper} {a : Act} {Q : Exit → Act → World → Prop} {Kc : Act → World → Prop}
theorem Kd.Z_lit (d : Kd Int) {w0 W : World} (base e : Nat) (hgd : o.guard = none) {N : Tmp} (_hd : o.dst = some N) {xs : List Int} {inner : List Value} {ok okp : Nat → Prop}
    (hrun : (execOp a.eval o).run P W = .ok (.value (.slice (some ⟨W.heap.size, 0, none⟩) xs.length xs.length)) (W.alloc (.cells inner.toArray e)))
    (hrep : Reps (d.M W base okp) d.sz xs inner) (hok : ∀ k, okp k → ok k) (hfresh : ok W.heap.size) (HB : Below base w0 W) (hbase : base ≤ W.heap.size) (hm : xs.length ≤ 9223372036854775807)
    (h : ∀ v1 w1, Kd.Z d e w1 base ok v1 xs → Below base w0 w1 → W.grownBy w1 none → (∃ b, v1.ownBlock = some b ∧ W.heap.size ≤ b) → wpList P ops Q rest (a.put o.dst v1) w1) (hq : d = Kd.int .u8 := by rfl) : wpList P ops Q (o :: rest) a W :=
  Kd.yL d base e hgd _hd hrun hrep hok hfresh HB hbase hm (fun v1 w1 hR => h v1 w1 (Kd.Z_R hR (by subst hq; exact fun h _ _ _ => h)))
theorem Kd.Z_append_rows (d : Kd Int) {Rr : Int → List Value → Prop} {w0 W : World} (base : Nat) (hgd : o.guard = none) (s x : Operand) (t e : TypeId) (z : Value) (bytes : Nat)
    (ho : o.op = .call { callee := .builtin .append, args := #[s, x], argTypes := #[t, t] })
    (ht : P.underlying t = some (.slice e)) (hinfo : (P.info? e).map (fun i => (i.zero, i.size, i.bytes)) = some (some z, d.sz, bytes)) (hz : z.cells.size = d.sz) (l : 0 < d.sz) (r : 0 < bytes)
    (v : Value) (xs ys : List Int) (A : Option Addr) (m c : Nat) (ok okp : Nat → Prop) (hs : a.eval s = v) (hx : a.eval x = .slice A m c)
    (HO : Kd.Z d e W base ok v xs) (HR : Zce Rr d.sz W A m ys) (hKM : ∀ x cs, Rr x cs → d.M W base okp x cs) (hokp : ∀ k, okp k → ok k ∧ some k ≠ v.ownBlock) (hfresh : ∀ k, W.heap.size ≤ k → ok k)
    (HB : Below base w0 W) (hbase : base ≤ W.heap.size) (hl : (xs.length + m) * bytes ≤ 140737488355328)
    (h : ∀ v1 w1, Kd.Z d e w1 base ok v1 (xs ++ ys) → Below base w0 w1 → W.grownBy w1 v.ownBlock → (v1.ownBlock = v.ownBlock ∨ ∃ b, v1.ownBlock = some b ∧ W.heap.size ≤ b) → wpList P ops Q rest (a.put o.dst v1) w1) (hq : d = Kd.int .u8 := by rfl) :
    wpList P ops Q (o :: rest) a W := by
  obtain ⟨i0, hi, hzz⟩ := Option.map_eq_some_iff.1 hinfo
  simp only [Prod.mk.injEq] at hzz
  obtain ⟨y, B, D⟩ := hzz
  have hm : ys.length = m := HR.1
  have hsz : d.sz = 1 := by rw [hq]; rfl
  have hlen : xs.length + m ≤ 140737488355328 := Nat.le_trans (Nat.le_mul_of_pos_right _ r) hl
  have HO' := HO
  obtain ⟨hok, inner, hown, hr⟩ := HO
  have hMM : ∀ {w b ok x cs}, d.M w b ok x cs → ∀ w' b' ok', d.M w' b' ok' x cs := by subst hq; exact fun h _ _ _ => h
  have hrun : ∃ v1 w1, (Builtin.append_ #[t, t] o.type #[v, .slice A m c]).run P W = .ok v1 w1 ∧ Kd.Z d e w1 base ok v1 (xs ++ ys) ∧ W.grownBy w1 v.ownBlock ∧ (v1.ownBlock = v.ownBlock ∨ ∃ b, v1.ownBlock = some b ∧ W.heap.size ≤ b) := by
    rcases A with _ | ad
    · have h0 : m = 0 := by
        rcases Nat.eq_zero_or_pos m with h0 | h0
        · exact h0
        · obtain ⟨ad, h, _⟩ := HR.2.2 h0
          cases h
      subst h0
      obtain rfl : ys = [] := List.eq_nil_of_length_eq_zero hm
      refine ⟨v, W, ?_, by rw [List.append_nil]; exact HO', World.grownBy.refl W _, .inl rfl⟩
      rcases hown.2 with ⟨rfl, hn⟩ | ⟨g, cap, cur, fz, rfl, _, _, _, hnc, _⟩
      · simp [Builtin.append_, run_underlying ht, sizeOf, typeInfo, hi, Builtin.lenOf, Builtin.firstCells]
      · simp [Builtin.append_, run_underlying ht, sizeOf, typeInfo, hi, Builtin.lenOf, Builtin.firstCells, hnc, storeCells]
    · obtain ⟨news, hnr, hnc⟩ := Zce.inner_ HR
      have hnM : Reps (d.M W base okp) d.sz ys news := hnr.imp_ (fun p c hp => hKM p c hp)
      have hone : ∀ u ∈ news, u.oneCell' = true := by
        intro u hu
        obtain ⟨q, hq', rfl⟩ := List.mem_iff_getElem.1 hu
        have hql : q / d.sz < ys.length := by
          rw [Nat.div_lt_iff_lt_mul l]
          rw [← hnM.1]
          exact hq'
        have hc := hnM.2 (q / d.sz) _ (List.getElem?_eq_getElem hql)
        refine d.K_one (d.K_of_M hc) _ ?_
        rw [List.mem_iff_getElem?]
        refine ⟨q % d.sz, ?_⟩
        rw [List.getElem?_take, if_pos (Nat.mod_lt _ l), List.getElem?_drop, Nat.mul_comm, Nat.div_add_mod, List.getElem?_eq_getElem hq']
      obtain ⟨v1, w1, hrun, h2, hg, hat⟩ := append_Z (P := P) W base t o.type e i0 z d.sz bytes ht hi y B D hz l v xs.length inner hown ad m c news (by rw [hnM.1, hm]) hnc hone (by simp only [maxLen]; omega) hl hbase
      have hat' : v1.ownBlock = v.ownBlock ∨ ∃ b, v1.ownBlock = some b ∧ W.heap.size ≤ b := by
        rcases hat with hat | hat
        · exact .inl hat
        · exact .inr ⟨_, hat, Nat.le_refl _⟩
      refine ⟨v1, w1, hrun, ⟨fun k hk => ?_, inner ++ news, by rw [List.length_append, hm]; exact h2, ?_⟩, hg, hat'⟩
      · rcases hat' with e1 | ⟨b, e1, E⟩
        · exact hok k (e1 ▸ hk)
        · rw [e1] at hk
          injection hk with hk
          subst hk
          exact hfresh _ E
      · have n : Reps (fun x cs => ∀ w' b' ok', d.M w' b' ok' x cs) d.sz ys news := hnM.imp_ fun _ _ hp => hMM hp
        refine ⟨by rw [List.length_append, List.length_append, hr.1, n.1, Nat.add_mul], fun j p hj => ?_⟩
        rw [hsz, Nat.mul_one]
        have hil : inner.length = xs.length := by rw [hr.1, hsz, Nat.mul_one]
        rcases Nat.lt_or_ge j xs.length with hlt | hge
        · rw [List.getElem?_append_left hlt] at hj
          have h3 := hr.2 j p hj
          rw [hsz, Nat.mul_one] at h3
          rwa [List.drop_append_of_le_length (by omega), List.take_append_of_le_length (by rw [List.length_drop]; omega)]
        · rw [List.getElem?_append_right hge] at hj
          have h3 := n.2 (j - xs.length) p hj
          rw [hsz, Nat.mul_one] at h3
          rw [List.drop_append, List.drop_eq_nil_of_le (by omega), List.nil_append, hil]
          exact h3
  obtain ⟨v1, w1, hrun, h2, hg, hat⟩ := hrun
  refine wpList_plain hgd fun K hK => ?_
  unfold Oper.wp execOp
  simp only [ho, resolve, invoke, builtin, Sem.run_bind, Sem.run_pure, Result.andThen_ok, List.map_toArray, List.map_cons, List.map_nil, hs, hx, hrun]
  exact hK _ _ (h v1 w1 h2 (HB.grown hg hbase (fun k hk => Kd.Z_base HO' k hk)) hg hat)
/-- '[]byte(s)'. -/
theorem Kd.Z_conv_step {W : World} (e : Nat) {N : Tmp} (s : ByteArray) {src dst : TypeId} {x : Operand} (hd : P.underlying dst = some (.slice e)) (hs : P.underlying src = some .string) (he : P.underlying e = some (.int .u8)) (hm : s.size ≤ 140737488355328)
    (h : ∀ v1 w1, Kd.Z (Kd.int .u8) e w1 W.heap.size (fun _ => True) v1 (bytesOf s) → Below W.heap.size W w1 → W.grownBy w1 none → (∃ b, v1.ownBlock = some b ∧ W.heap.size ≤ b) → Kc (a.put o.dst v1) w1)
    (hw : Region.wanted o (yielded ops a.tmps) = true := by rfl) (ho : o.op = .convert src dst x := by rfl) (_hN : o.dst = some N := by rfl) (hx : a.eval x = .string s := by first | rfl | (go_simp; done) | (go_simp; rfl)) :
    if Region.wanted o (yielded ops a.tmps) = true then Oper.wp P o a W Kc Q else Kc (a.put o.dst undef) W := by
  have hr := Lib.run_convert_string_bytes (P := P) W src dst e s hs hd he
  have hge := grownCap_ge W s.size 0 e
  have hcm : grownCap W s.size 0 e ≤ maxLen := grownCap_le_maxLen W s.size 0 e (by simp only [maxLen]; omega)
  have hsz : (Lib.bytesCells W e s).size = grownCap W s.size 0 e := by
    simp only [Lib.bytesCells, Array.size_append, Array.size_map, Array.size_replicate]
    have : s.data.size = s.size := rfl
    omega
  have c : Below W.heap.size W (Lib.bytesWorld W e s) := ⟨rfl, rfl, rfl, by rw [Lib.bytesWorld_size]; omega, fun k hk => Lib.bytesWorld_at_old W e s k hk⟩
  refine event_step hw (show (execOp a.eval o).run P W = .ok (.value (.slice (some ⟨W.heap.size, 0, none⟩) s.size (grownCap W s.size 0 e))) (Lib.bytesWorld W e s) by simp [execOp, ho, hx, hr, Result.andThen]) (h _ _ ⟨fun _ _ => trivial, (bytesOf s).map (Value.int .u8), ?_, ?_⟩ c (grown_of_below c none) ⟨_, rfl, Nat.le_refl _⟩)
  · refine ⟨by simp [Kd.int, Kd.scalar], .inr ⟨W.heap.size, _, _, _, by rw [bytesOf_length], Nat.le_refl _, Lib.bytesWorld_at_new W e s, .inr (Nat.le_refl _), by rw [bytesOf_length]; exact hge, hcm, by rw [hsz]; simp [Kd.int, Kd.scalar], ?_⟩⟩
    rw [bytesOf_length]
    simp only [Lib.bytesCells, Kd.int, Kd.scalar, Nat.mul_one, Array.toList_append, Array.toList_map, bytesOf, List.map_map]
    rw [List.take_append_of_le_length (by rw [List.length_map, Array.length_toList]; exact Nat.le_refl _)]
    rw [List.take_of_length_le (by rw [List.length_map, Array.length_toList]; exact Nat.le_refl _)]
    rfl
  · refine ⟨by simp [Kd.int, Kd.scalar], fun j p hj => ?_⟩
    have hj' : j < (bytesOf s).length := (List.getElem?_eq_some_iff.1 hj).1
    have hp : (bytesOf s)[j] = p := (List.getElem?_eq_some_iff.1 hj).2
    show ∀ (w' : World) (b' : Nat) (ok' : Nat → Prop), (((bytesOf s).map (Value.int .u8)).drop (j * 1)).take 1 = [Value.int .u8 p]
    intro _ _ _
    rw [Nat.mul_one, List.drop_eq_getElem_cons (by simpa using hj')]
    simp [hp]
end
theorem Kd.Z_string {P : Program} {w : World} {src dst e : TypeId} {e' base : Nat} {ok : Nat → Prop} {v : Value} {xs : List Int} (hs : P.underlying src = some (.slice e)) (he : P.underlying e = some (.int .u8)) (hd : P.underlying dst = some .string)
    (h : Kd.Z (Kd.int .u8) e' w base ok v xs) : (convert src dst v).run P w = .ok (.string (strOfNums xs)) w := by
  obtain ⟨A, c, rfl⟩ := Kd.Z_slice h
  exact Kd.C_string hs he hd (Kd.Z_reads' h).2.2
set_option maxHeartbeats 2000000 in
theorem idxI (g : Nat) (lb : Array Value) (eg : ∀ args w, (callFunc g args).run Try.prog w = .ok (.enter g args) w) (p : Int → Bool) (A : Option Addr) (c : Nat) (l : List Int) (w : World) (hr : Kd.C (Kd.int .i64) w A l.length l)
    (hp : ∀ (W : World) (x : Int), x ∈ l → Below w.heap.size w W → Calls Try.prog g (#[.int .i64 x] ++ lb) W fun e w' => e = .returned (.bool (p x)) ∧ Below W.heap.size W w') :
    Calls Try.prog 114 #[.slice A l.length c, .func (.func g) #[] lb] w fun e w' => e = .returned (.int .i64 (fidx p l)) ∧ Below w.heap.size w w' := by
  have HR := Zad.mk hr
  have hlen : l.length ≤ 9223372036854775807 := hr.2.1
  clear hr
  have HP := Zad.mk hp
  clear hp
  go_enter Try.func114, Try.ntmps114
  go_wp2
  go_loopg [5, 8] l.length (fun gg _ s8 wr => ∃ kk : Nat, kk ≤ l.length ∧ l.length - kk ≤ gg ∧ s8 = .int .i64 kk ∧ Zad (Below w.heap.size w wr) ∧ Zad (∀ j (hj : j < kk) (hl : j < l.length), p l[j] = false))
  case atStart => exact ⟨0, Nat.zero_le _, by omega, rfl, ⟨Below.refl _ w⟩, ⟨fun j hj => absurd hj (Nat.not_lt_zero _)⟩⟩
  case round =>
    obtain ⟨kk, hkk, hg, rfl, BW, AS⟩ := hrel
    by_cases hlt : kk < l.length
    · have hltz : (kk : Int) < (l.length : Int) := by omega
      have a : 0 ≤ (kk : Int) := by omega
      obtain ⟨ad, e, hx⟩ := Kd.zL HR.out (kk : Int) a hltz
      cases e
      replace hx := (BW.out.cell (World.block_lt_of_cell? w _ hx)).trans hx
      rw [rd_get hlt, Int.toNat_natCast] at hx
      have hcall := HP.out wr l[kk] (List.getElem_mem hlt) BW.out
      cases hq : p l[kk] with
      | true =>
        rw [hq] at hcall
        have HQ := Zad.mk hq
        clear hq
        generalize hy : l[kk] = y at hx hcall
        clear hy
        go_wp2_with (go_at_fn g; refine hcall.mono ?_; rintro e w' ⟨rfl, hb'⟩)
        go_ret
        exact ⟨by rw [fidx_hit hlt HQ.out (fun j hj => AS.out j hj _)]; rfl, Zaf BW.out hb'⟩
      | false =>
        rw [hq] at hcall
        have HQ := Zad.mk hq
        clear hq
        generalize hy : l[kk] = y at hx hcall
        clear hy
        go_wp2_with (go_at_fn g; refine hcall.mono ?_; rintro e w' ⟨rfl, hb'⟩)
        go_roundg (l.length - (kk + 1))
        case measure => omega
        case rel =>
          refine ⟨kk + 1, by omega, by omega, by go_num, ⟨Zaf BW.out hb'⟩, ⟨fun j hj hl => ?_⟩⟩
          by_cases e : j = kk
          · subst e
            exact HQ.out
          · exact AS.out j (by omega) hl
    · have hltz : ¬ (kk : Int) < (l.length : Int) := by omega
      have hke : kk = l.length := by omega
      have HKE := Zad.mk hke
      clear hke
      go_wp2
      go_ret
      exact ⟨by rw [fidx_miss (fun j hj => AS.out j (by have := HKE.out; omega) hj)]; rfl, BW.out⟩
set_option maxHeartbeats 2000000 in
theorem conI (g : Nat) (lb : Array Value) (eg : ∀ args w, (callFunc g args).run Try.prog w = .ok (.enter g args) w) (p : Int → Bool) (A : Option Addr) (c : Nat) (l : List Int) (w : World) (hr : Kd.C (Kd.int .i64) w A l.length l)
    (hp : ∀ (W : World) (x : Int), x ∈ l → Below w.heap.size w W → Calls Try.prog g (#[.int .i64 x] ++ lb) W fun e w' => e = .returned (.bool (p x)) ∧ Below W.heap.size W w') :
    Calls Try.prog 106 #[.slice A l.length c, .func (.func g) #[] lb] w fun e w' => e = .returned (.bool (l.any p)) ∧ Below w.heap.size w w' := by
  have HI := Zad.mk (fun w0 (h0 : w0 = w) => h0 ▸ idxI g lb eg p A c l w hr hp)
  rw [← fidx_nonneg]
  clear hr hp
  go_enter Try.func106, Try.ntmps106
  go_wp2_with (go_at_call 114; refine (HI.out _ rfl).mono ?_; rintro e w' ⟨rfl, hb'⟩)
  go_ret
  exact ⟨rfl, hb'⟩
theorem allIn_1 (n lo hi : Int) (b1 b2 : Nat) (w : World) (h1 : w.cell? ⟨b1, 0, none⟩ = some (.int .i64 lo)) (h2 : w.cell? ⟨b2, 0, none⟩ = some (.int .i64 hi)) :
    Calls Try.prog 107 #[.int .i64 n, .pointer (some ⟨b1, 0, none⟩), .pointer (some ⟨b2, 0, none⟩)] w fun e w' => e = .returned (.bool (!(decide (lo ≤ n) && decide (n ≤ hi)))) ∧ Below w.heap.size w w' := by
  have hf : Zb2.f n lo hi = some (decide (lo ≤ n) && decide (n ≤ hi)) := by
    unfold Zb2.f
    by_cases h : lo ≤ n <;> simp [h]
  have HF := Zad.mk hf
  clear hf
  generalize (decide (lo ≤ n) && decide (n ≤ hi)) = r at HF ⊢
  go_enter Try.func107, Try.ntmps107
  go_wp2_with (go_at_call 84; refine (Zb2.calls n lo hi r _ HF.out).mono ?_; rintro e w' ⟨rfl, hq⟩)
  go_ret
  exact ⟨rfl, hq.below⟩
def impl_allIn.f (l0 : List Int) (a1 : Int) (a2 : Int) : Option Bool := some (l0.all fun n => decide (a1 ≤ n) && decide (n ≤ a2))
theorem impl_allIn.calls (A0 : Option Addr) (c0 : Nat) (l0 : List Int) (a1 : Int) (a2 : Int) (r : Bool) (w : World) (a : Kd.C (Kd.int .i64) w A0 l0.length l0) (d : l0.length ≤ c0) (h : impl_allIn.f l0 a1 a2 = some r) :
    Calls Try.prog 88 #[.slice A0 l0.length c0, .int .i64 a1, .int .i64 a2] w fun e w' => e = .returned (.bool r) ∧ Below w.heap.size w w' := by
  have hany : (l0.any fun n => !(decide (a1 ≤ n) && decide (n ≤ a2))) = !r := by
    unfold impl_allIn.f at h
    rw [← Option.some.inj h, List.not_all_eq_any_not]
  clear h
  have HR := mA a
  clear a
  have HC := fun W A (hA : Kd.C (Kd.int .i64) W A l0.length l0) (b1 b2 : Nat) (h1 : W.cell? ⟨b1, 0, none⟩ = some (.int .i64 a1)) (h2 : W.cell? ⟨b2, 0, none⟩ = some (.int .i64 a2)) (b : b1 < W.heap.size) (c : b2 < W.heap.size) =>
    conI 107 #[.pointer (some ⟨b1, 0, none⟩), .pointer (some ⟨b2, 0, none⟩)] (enters_of Try.func107 (by kernel_rfl) rfl) (fun n => !(decide (a1 ≤ n) && decide (n ≤ a2))) A c0 l0 W hA
      (fun W' x _ hb => allIn_1 x a1 a2 b1 b2 W' ((hb.cell (p := ⟨b1, 0, none⟩) b).trans h1) ((hb.cell (p := ⟨b2, 0, none⟩) c).trans h2))
  rw [hany] at HC
  clear hany
  go_enter Try.func88, Try.ntmps88
  go_wp2_with fail
  refine (HC _ A0 (yW (yW HR.out _) _) w.heap.size (w.heap.size + 1) (by go_simp) (by go_simp) (by simp; omega) (by simp)).mono ?_
  rintro e w' ⟨rfl, hb⟩
  go_wp2
  go_ret
  exact ⟨by simp, ((Zbb (Zbb (Below.refl _ w) _) _).trans (hb.mono (by simp; omega)))⟩
theorem rdL_get {l : List (List Int)} {k : Nat} (hk : k < l.length) : Zah l (k : Int) = l[k] := by
  unfold Zah; rw [List.getD_eq_getElem?_getD, Int.toNat_natCast, List.getElem?_eq_getElem hk]; rfl
set_option maxHeartbeats 2000000 in
theorem idxL (g : Nat) (lb : Array Value) (eg : ∀ args w, (callFunc g args).run Try.prog w = .ok (.enter g args) w) (p : List Int → Bool) (A : Option Addr) (c : Nat) (l : List (List Int)) (w : World) (hr : Kd.C (Kd.slice 2 (Kd.int .i64)) w A l.length l)
    (hp : ∀ (W : World) (x : List Int) (A' : Option Addr) (c' : Nat), x ∈ l → Below w.heap.size w W → Kd.C (Kd.int .i64) W A' x.length x → x.length ≤ c' → Calls Try.prog g (#[.slice A' x.length c'] ++ lb) W fun e w' => e = .returned (.bool (p x)) ∧ Below W.heap.size W w') :
    Calls Try.prog 98 #[.slice A l.length c, .func (.func g) #[] lb] w fun e w' => e = .returned (.int .i64 (fidx p l)) ∧ Below w.heap.size w w' := by
  have HR := Zad.mk hr
  have hlen : l.length ≤ 9223372036854775807 := hr.2.1
  clear hr
  have HP := Zad.mk hp
  clear hp
  go_enter Try.func98, Try.ntmps98
  go_wp2
  go_loopg [5, 8] l.length (fun gg _ s8 wr => ∃ kk : Nat, kk ≤ l.length ∧ l.length - kk ≤ gg ∧ s8 = .int .i64 kk ∧ Zad (Below w.heap.size w wr) ∧ Zad (∀ j (hj : j < kk) (hl : j < l.length), p l[j] = false))
  case atStart => exact ⟨0, Nat.zero_le _, by omega, rfl, ⟨Below.refl _ w⟩, ⟨fun j hj => absurd hj (Nat.not_lt_zero _)⟩⟩
  case round =>
    obtain ⟨kk, hkk, hg, rfl, BW, AS⟩ := hrel
    by_cases hlt : kk < l.length
    · have hltz : (kk : Int) < (l.length : Int) := by omega
      have a : 0 ≤ (kk : Int) := by omega
      obtain ⟨ad, A', c', e, hx, hlc, hin⟩ := Zca HR.out (kk : Int) a hltz
      cases e
      replace hx := (BW.out.cell (World.block_lt_of_cell? w _ hx)).trans hx
      rw [rdL_get hlt] at hx hlc hin
      rw [Int.toNat_natCast] at hx
      have hcall := HP.out wr l[kk] A' c' (List.getElem_mem hlt) BW.out (Kd.zO hin BW.out) hlc
      clear hlc hin
      cases hq : p l[kk] with
      | true =>
        rw [hq] at hcall
        have HQ := Zad.mk hq
        clear hq
        generalize hy : l[kk] = y at hx hcall
        clear hy
        go_wp2_with (go_at_fn g; refine hcall.mono ?_; rintro e w' ⟨rfl, hb'⟩)
        go_ret
        exact ⟨by rw [fidx_hit hlt HQ.out (fun j hj => AS.out j hj _)]; rfl, Zaf BW.out hb'⟩
      | false =>
        rw [hq] at hcall
        have HQ := Zad.mk hq
        clear hq
        generalize hy : l[kk] = y at hx hcall
        clear hy
        go_wp2_with (go_at_fn g; refine hcall.mono ?_; rintro e w' ⟨rfl, hb'⟩)
        go_roundg (l.length - (kk + 1))
        case measure => omega
        case rel =>
          refine ⟨kk + 1, by omega, by omega, by go_num, ⟨Zaf BW.out hb'⟩, ⟨fun j hj hl => ?_⟩⟩
          by_cases e : j = kk
          · subst e
            exact HQ.out
          · exact AS.out j (by omega) hl
    · have hltz : ¬ (kk : Int) < (l.length : Int) := by omega
      have hke : kk = l.length := by omega
      have HKE := Zad.mk hke
      clear hke
      go_wp2
      go_ret
      exact ⟨by rw [fidx_miss (fun j hj => AS.out j (by have := HKE.out; omega) hj)]; rfl, BW.out⟩
set_option maxHeartbeats 2000000 in
theorem conL (g : Nat) (lb : Array Value) (eg : ∀ args w, (callFunc g args).run Try.prog w = .ok (.enter g args) w) (p : List Int → Bool) (A : Option Addr) (c : Nat) (l : List (List Int)) (w : World) (hr : Kd.C (Kd.slice 2 (Kd.int .i64)) w A l.length l)
    (hp : ∀ (W : World) (x : List Int) (A' : Option Addr) (c' : Nat), x ∈ l → Below w.heap.size w W → Kd.C (Kd.int .i64) W A' x.length x → x.length ≤ c' → Calls Try.prog g (#[.slice A' x.length c'] ++ lb) W fun e w' => e = .returned (.bool (p x)) ∧ Below W.heap.size W w') :
    Calls Try.prog 62 #[.slice A l.length c, .func (.func g) #[] lb] w fun e w' => e = .returned (.bool (l.any p)) ∧ Below w.heap.size w w' := by
  have HI := Zad.mk (fun w0 (h0 : w0 = w) => h0 ▸ idxL g lb eg p A c l w hr hp)
  rw [← fidx_nonneg]
  clear hr hp
  go_enter Try.func62, Try.ntmps62
  go_wp2_with (go_at_call 98; refine (HI.out _ rfl).mono ?_; rintro e w' ⟨rfl, hb'⟩)
  go_ret
  exact ⟨rfl, hb'⟩
def badRow (L n : Int) (x : List Int) : Bool := !(decide ((x.length : Int) = L)) || !(x.all fun t => decide (-1 ≤ t) && decide (t ≤ n - 1))
set_option maxHeartbeats 2000000 in
theorem IsAutomaton_1 (L n : Int) (hn : 0 ≤ n ∧ n ≤ 9223372036854775807) (b1 b2 : Nat) (A : Option Addr) (c : Nat) (x : List Int) (w : World) (hr : Kd.C (Kd.int .i64) w A x.length x) (hc : x.length ≤ c) (h1 : w.cell? ⟨b1, 0, none⟩ = some (.int .i64 L)) (h2 : w.cell? ⟨b2, 0, none⟩ = some (.int .i64 n)) :
    Calls Try.prog 86 #[.slice A x.length c, .pointer (some ⟨b1, 0, none⟩), .pointer (some ⟨b2, 0, none⟩)] w fun e w' => e = .returned (.bool (badRow L n x)) ∧ Below w.heap.size w w' := by
  have HR := Zad.mk hr
  have HC := Zad.mk hc
  have hlen : x.length ≤ 9223372036854775807 := hr.2.1
  have hf : ∀ r, (x.all fun t => decide (-1 ≤ t) && decide (t ≤ n - 1)) = r → impl_allIn.f x (-1) (n - 1) = some r := fun r h => by unfold impl_allIn.f; rw [h]
  have HF := Zad.mk hf
  have hlf : Zci.f x = some (x.length : Int) := rfl
  have HLF := Zad.mk hlf
  clear hr hc hf hlf
  obtain ⟨b, d⟩ := hn
  by_cases hL : (x.length : Int) = L
  · have hb : badRow L n x = !(x.all fun t => decide (-1 ≤ t) && decide (t ≤ n - 1)) := by unfold badRow; simp [hL]
    rw [hb]
    clear hb
    generalize (x.all fun t => decide (-1 ≤ t) && decide (t ≤ n - 1)) = r at HF ⊢
    have hne : ((x.length : Int) != L) = false := by simp [hL]
    have HL := Zad.mk hL
    clear hL
    have hA := fun W => impl_allIn.calls A c x (-1) (n - 1) r W
    have hA' := fun W (hb : Below w.heap.size w W) => hA W (Kd.zO HR.out hb) HC.out (HF.out _ rfl)
    clear hA
    have hlA := World.block_lt_of_cell? w _ h1
    have hlB := World.block_lt_of_cell? w _ h2
    have hwr : IntKind.i64.wrap (n - 1) = n - 1 := IntWalk.i64_in _ (by omega)
    go_enter Try.func86, Try.ntmps86
    go_wp2
    go_region_held3 (fun w' => w'.cell? ⟨b1, 0, none⟩ = some (.int .i64 L) ∧ w'.cell? ⟨b2, 0, none⟩ = some (.int .i64 n)) (go_keep)
      (first | (go_at_call 87; refine Calls.mono (Zci.calls A c x _ _ (by repeat (first | (with_reducible refine Kd.yY ?_ _) | (with_reducible refine Kd.yX ?_) | exact HR.out)) HC.out HLF.out) ?_; rintro e w' ⟨rfl, ⟨m, rfl⟩⟩) | (go_at_call 88; refine Calls.mono (hA' _ (by repeat (first | apply Za9 | apply Za1 | exact Below.refl _ _))) ?_; rintro e w1 ⟨rfl, a⟩; have k1 := (a.cell (p := ⟨b1, 0, none⟩) (by simpa using hlA)).trans (by simpa using h1); have k2 := (a.cell (p := ⟨b2, 0, none⟩) (by simpa using hlB)).trans (by simpa using h2)))
    go_wp2
    go_ret
    exact ⟨by simp, Zaf (Za9 (Below.refl _ w) _) a⟩
  · have hb : badRow L n x = true := by unfold badRow; simp [hL]
    rw [hb]
    clear hb
    have hne : ((x.length : Int) != L) = true := by simpa using hL
    have HL := Zad.mk hL
    clear hL
    go_enter Try.func86, Try.ntmps86
    go_wp2
    go_quiet ((go_at_call 87; refine Calls.mono (Zci.calls A c x _ _ (by repeat (first | (with_reducible refine Kd.yY ?_ _) | (with_reducible refine Kd.yX ?_) | exact HR.out)) HC.out HLF.out) ?_; rintro e w' ⟨rfl, ⟨nd, rfl⟩⟩; (try first | exact ⟨rfl, _, World.drewN_drewN _ _ _⟩ | exact ⟨rfl, _, Eq.trans (World.drewN_drewN _ _ _) (congrArg (World.drewN _) (Nat.add_assoc _ _ _))⟩)))
    go_wp2
    go_ret
    exact ⟨rfl, by repeat (first | apply Za9 | apply Za1 | exact Below.refl _ _)⟩
def inRB (n lo hi : Int) : Bool := decide (lo ≤ n) && decide (n ≤ hi)
theorem inRange_some (n lo hi : Int) : Zb2.f n lo hi = some (inRB n lo hi) := by
  unfold Zb2.f inRB
  by_cases h : lo ≤ n <;> simp [h]
theorem inRange_any (n lo hi : Int) (w : World) : Calls Try.prog 84 #[.int .i64 n, .int .i64 lo, .int .i64 hi] w fun e w' => e = .returned (.bool (inRB n lo hi)) ∧ Zas w w' :=
  Zb2.calls n lo hi _ w (inRange_some n lo hi)
def maskB (F n : Int) : Bool := (Zc1.f F n).getD false
theorem isMask_some (F n : Int) : Zc1.f F n = some (maskB F n) := by
  unfold maskB Zc1.f
  rw [inRange_some]
  simp only [Option.bind_some]
  split
  · rename_i h
    unfold inRB at h
    simp only [Bool.and_eq_true, decide_eq_true_eq] at h
    unfold Zc2.f
    rw [if_pos h.1]
    simp only [Option.bind_some]
    rw [inRange_some]
    rfl
  · rfl
theorem isMask_any (F n : Int) (w : World) : Calls Try.prog 85 #[.int .i64 F, .int .i64 n] w fun e w' => e = .returned (.bool (maskB F n)) ∧ Zas w w' :=
  Zc1.calls F n _ w (isMask_some F n)
def isAut (L S F : Int) (N : List (List Int)) : Bool :=
  inRB L 0 8 && (inRB N.length 1 16 && (inRB S 0 ((N.length : Int) - 1) && (maskB F N.length && !(N.any (badRow L N.length)))))
def Zcr.f (a : Int) (b : Int) (c : Int) (d : List (List Int)) : Option Bool := some (isAut a b c d)
set_option maxHeartbeats 4000000 in
theorem Zcr.calls (b : Int) (g : Int) (i : Int) (c : Option Addr) (d : Nat) (a : List (List Int)) (r : Bool) (w : World) (j : Kd.C (Kd.slice 2 (Kd.int .i64)) w c a.length a) (k : a.length ≤ d) (h : Zcr.f b g i a = some r) :
    Calls Try.prog 42 #[.agg #[.int .i64 b, .int .i64 g, .int .i64 i, .slice c a.length d]] w fun e w' => e = .returned (.bool r) ∧ Below w.heap.size w w' := by
  have hlen : a.length ≤ 9223372036854775807 := j.2.1
  have HR := mA j
  have HCp := mA k
  clear j k
  have hrr : isAut b g i a = r := Option.some.inj h
  clear h
  unfold isAut at hrr
  have HLF := mA (show Zbv.f a = some (a.length : Int) from rfl)
  have hwr : IntKind.i64.wrap ((a.length : Int) - 1) = (a.length : Int) - 1 := IntWalk.i64_in _ (by omega)
  have HCN := fun W A (hA : Kd.C (Kd.slice 2 (Kd.int .i64)) W A a.length a) (b1 b2 : Nat) (h1 : W.cell? ⟨b1, 0, none⟩ = some (.int .i64 b)) (h2 : W.cell? ⟨b2, 0, none⟩ = some (.int .i64 a.length)) (n : b1 < W.heap.size) (o : b2 < W.heap.size) =>
    conL 86 #[.pointer (some ⟨b1, 0, none⟩), .pointer (some ⟨b2, 0, none⟩)] (enters_of Try.func86 (by kernel_rfl) rfl) (badRow b a.length) A d a W hA
      (fun W' x A' c' _ hb hC hc => IsAutomaton_1 b a.length ⟨by omega, by omega⟩ b1 b2 A' c' x W' hC hc ((hb.cell (p := ⟨b1, 0, none⟩) n).trans h1) ((hb.cell (p := ⟨b2, 0, none⟩) o).trans h2))
  generalize q : a.any (badRow b a.length) = q5 at HCN hrr
  clear q
  cases hq1 : inRB b 0 8
  · rw [hq1, Bool.false_and] at hrr
    subst hrr
    clear HCN
    go_enter Try.func42, Try.ntmps42
    go_wp2_with (first | (go_at_call 59; refine Calls.mono (Zbv.calls c d a _ _ (by repeat (first | (with_reducible refine yY ?_ _) | (with_reducible refine yX ?_) | (with_reducible refine yW ?_ _) | exact HR.out)) HCp.out HLF.out) ?_; rintro e w' ⟨rfl, ⟨nd, rfl⟩⟩) | (go_at_call 84; refine Calls.mono (inRange_any _ _ _ _) ?_; rintro e w' ⟨rfl, ⟨l, rfl⟩⟩) | (go_at_call 85; refine Calls.mono (isMask_any _ _ _) ?_; rintro e w' ⟨rfl, ⟨m, rfl⟩⟩))
    go_ret
    exact ⟨rfl, by repeat (first | apply Zbb | apply Za9 | apply Za1 | exact Below.refl _ _)⟩
  rw [hq1, Bool.true_and] at hrr
  cases hq2 : inRB a.length 1 16
  · rw [hq2, Bool.false_and] at hrr
    subst hrr
    clear HCN
    go_enter Try.func42, Try.ntmps42
    go_wp2_with (first | (go_at_call 59; refine Calls.mono (Zbv.calls c d a _ _ (by repeat (first | (with_reducible refine yY ?_ _) | (with_reducible refine yX ?_) | (with_reducible refine yW ?_ _) | exact HR.out)) HCp.out HLF.out) ?_; rintro e w' ⟨rfl, ⟨nd, rfl⟩⟩) | (go_at_call 84; refine Calls.mono (inRange_any _ _ _ _) ?_; rintro e w' ⟨rfl, ⟨l, rfl⟩⟩) | (go_at_call 85; refine Calls.mono (isMask_any _ _ _) ?_; rintro e w' ⟨rfl, ⟨m, rfl⟩⟩))
    go_ret
    exact ⟨rfl, by repeat (first | apply Zbb | apply Za9 | apply Za1 | exact Below.refl _ _)⟩
  rw [hq2, Bool.true_and] at hrr
  cases hq3 : inRB g 0 ((a.length : Int) - 1)
  · rw [hq3, Bool.false_and] at hrr
    subst hrr
    clear HCN
    go_enter Try.func42, Try.ntmps42
    go_wp2_with (first | (go_at_call 59; refine Calls.mono (Zbv.calls c d a _ _ (by repeat (first | (with_reducible refine yY ?_ _) | (with_reducible refine yX ?_) | (with_reducible refine yW ?_ _) | exact HR.out)) HCp.out HLF.out) ?_; rintro e w' ⟨rfl, ⟨nd, rfl⟩⟩) | (go_at_call 84; refine Calls.mono (inRange_any _ _ _ _) ?_; rintro e w' ⟨rfl, ⟨l, rfl⟩⟩) | (go_at_call 85; refine Calls.mono (isMask_any _ _ _) ?_; rintro e w' ⟨rfl, ⟨m, rfl⟩⟩))
    go_ret
    exact ⟨rfl, by repeat (first | apply Zbb | apply Za9 | apply Za1 | exact Below.refl _ _)⟩
  rw [hq3, Bool.true_and] at hrr
  cases hq4 : maskB i a.length
  · rw [hq4, Bool.false_and] at hrr
    subst hrr
    clear HCN
    go_enter Try.func42, Try.ntmps42
    go_wp2_with (first | (go_at_call 59; refine Calls.mono (Zbv.calls c d a _ _ (by repeat (first | (with_reducible refine yY ?_ _) | (with_reducible refine yX ?_) | (with_reducible refine yW ?_ _) | exact HR.out)) HCp.out HLF.out) ?_; rintro e w' ⟨rfl, ⟨nd, rfl⟩⟩) | (go_at_call 84; refine Calls.mono (inRange_any _ _ _ _) ?_; rintro e w' ⟨rfl, ⟨l, rfl⟩⟩) | (go_at_call 85; refine Calls.mono (isMask_any _ _ _) ?_; rintro e w' ⟨rfl, ⟨m, rfl⟩⟩))
    go_ret
    exact ⟨rfl, by repeat (first | apply Zbb | apply Za9 | apply Za1 | exact Below.refl _ _)⟩
  rw [hq4, Bool.true_and] at hrr
  subst hrr
  go_enter Try.func42, Try.ntmps42
  go_wp2_with (first | (go_at_call 59; refine Calls.mono (Zbv.calls c d a _ _ (by repeat (first | (with_reducible refine yY ?_ _) | (with_reducible refine yX ?_) | (with_reducible refine yW ?_ _) | exact HR.out)) HCp.out HLF.out) ?_; rintro e w' ⟨rfl, ⟨nd, rfl⟩⟩) | (go_at_call 84; refine Calls.mono (inRange_any _ _ _ _) ?_; rintro e w' ⟨rfl, ⟨l, rfl⟩⟩) | (go_at_call 85; refine Calls.mono (isMask_any _ _ _) ?_; rintro e w' ⟨rfl, ⟨m, rfl⟩⟩))
  refine Calls.mono (HCN _ c (by repeat (first | (with_reducible refine yY ?_ _) | (with_reducible refine yX ?_) | (with_reducible refine yW ?_ _) | exact HR.out)) w.heap.size (w.heap.size + 1) (by go_simp) (by go_simp) (by simp; omega) (by simp)) ?_
  rintro e w' ⟨rfl, hb⟩
  go_wp2
  go_ret
  exact ⟨by simp, Zaf (by repeat (first | apply Zbb | apply Za9 | apply Za1 | exact Below.refl _ _)) hb⟩
end Go.Proofs.Ytgindgodfcfgkaa.P
end M1
