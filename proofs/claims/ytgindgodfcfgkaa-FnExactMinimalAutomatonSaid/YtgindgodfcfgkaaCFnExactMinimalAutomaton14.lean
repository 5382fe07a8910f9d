import Derived.Test.YtgindgodfcfgkaaCFnExactMinimalAutomaton2
set_option maxHeartbeats 8000000
set_option maxRecDepth 100000
section M0
namespace Go.Proofs.Ytgindgodfcfgkaa.P
open Go.RowKit Go.Proofs.Ytgindgodfcfgkaa.Sh Go.Proofs.YtgindgodfcfgkaaW.PrintWords Go.Proofs.YtgindgodfcfgkaaW.PrintLast Go.Proofs.YtgindgodfcfgkaaW.PrintMore
open Kd
attribute [local go_sem] Zcf Zcc Zcn Zcp Zb5 Zb3 Zcd Zcb   -- for this text's walks alone
set_option linter.unusedVariables false
set_option linter.unusedSimpArgs false
def Zbj.l0 : Nat → List Int → Int → Int → Option (Int × List Int)
 | 0, _, _, _ => none
 | k + 1, x0, x1, x5 => if x5 < (x0.length : Int) then (if 0 ≤ x5 then (Zbj.l0 k (x0.set (x5 : Int).toNat x1) (wrap64 (x1 + 1)) (wrap64 (x5 + 1))) else (none)) else (some (x1, x0))
def Zbj.f (k : Nat) (l0 : List Int) (a1 : Int) : Option (Int × List Int) := Zbj.l0 k l0 a1 0
theorem Zbj.calls (k : Nat) (d : Nat → Prop) (c : Value) (l0 : List Int) (a1 : Int) (r1 : Int) (r2 : List Int) (w0 w : World) (hB : Below w0.heap.size w0 w) (x : Kd.R (Kd.int .i64) 2 w w0.heap.size d c l0) (h : Zbj.f k l0 a1 = some (r1, r2)) :
  Calls Try.prog 22 #[c, .int .i64 a1] w fun e w' => e = .returned (.int .i64 r1) ∧ Kd.R (Kd.int .i64) 2 w' w0.heap.size (fun k_ => (d k_ ∨ w.heap.size ≤ k_)) c r2 ∧ Below w0.heap.size w0 w' ∧ Kept w w' (fun k_ => d k_) := by
 have y := mA (show Kd.R (Kd.int .i64) 2 w w0.heap.size (fun k_ => (d k_ ∨ w.heap.size ≤ k_)) c l0 from zC x (fun k_ hk => (.inl hk)))
 have HK := mA (Kept.refl w (fun k_ => d k_))
 have L := mA hB.size
 have HB := mA hB
 clear hB
 unfold Zbj.f at h
 have H := h
 clear h
 have H' := mA H
 clear H
 go_enter Try.func22, Try.ntmps22
 go_wp2
 go_loopg [1, 5] k (fun kq v1 v5 w' => ∃ (g : List Int) (i : Int) (a : Int), v1 = .int .i64 i ∧ v5 = .int .i64 a ∧ Zad (Zbj.l0 kq g i a = some (r1, r2)) ∧ Zad (kq ≤ k) ∧ Zad (Kd.R (Kd.int .i64) 2 w' w0.heap.size (fun k_ => (d k_ ∨ w.heap.size ≤ k_)) c g) ∧ Zad (Kept w w' (fun k_ => d k_)) ∧ Zad (Below w0.heap.size w0 w'))
 case atStart => exact ⟨(l0), (a1), (0), (eW), (eW), H', ⟨Nat.le_refl _⟩, ⟨rP y.out⟩, ⟨kW⟩, ⟨bW⟩⟩
 case round =>
  clear H'
  try clear c2
  try clear p2
  obtain ⟨g, i, a, rfl, rfl, HA, q, b, HK, HB⟩ := hrel
  cases gk with
  | zero => exact absurd HA.out (by simp [Zbj.l0])
  | succ k1 =>
   have H := HA.out
   clear HA
   simp only [Zbj.l0] at H
   by_cases c3 : a < (g.length : Int); rotate_left
   ·rw [if_neg c3] at H
    have v := dF c3
    clear c3
    simp only [Option.some.injEq, Prod.mk.injEq] at H
    obtain ⟨rfl, rfl⟩ := H
    obtain ⟨M, O, z⟩ := zN b.out
    subst z
    go_wp2
    go_ret
    exact ⟨eW, (rP b.out), bW, kW⟩
   rw [if_pos c3] at H
   have v := dT c3
   clear c3
   by_cases c4 : 0 ≤ a; rotate_left
   ·rw [if_neg c4] at H
    exact absurd H (by simp)
   rw [if_pos c4] at H
   have K := dT c4
   clear c4
   obtain ⟨m, j⟩ : ∃ y_ : List Int, y_ = (g.set (a : Int).toNat i) := ⟨_, rfl⟩
   rw [← j] at H
   have o := mA j
   clear j
   have H' := mA H
   clear H
   obtain ⟨P, A, B⟩ := zN b.out
   subst B
   have p5 : 0 ≤ (a : Int) := ofD
   have q5 : (a : Int) < ((g.length : Int) : Int) := ofD
   obtain ⟨l, T, r, s, D, U, u⟩ := yH b.out (by omega)
   (first | cases r | (injection r with ea_ en_ ec_; (first | subst ea_ | (injection ea_ with ea_; subst ea_)); subst ec_; clear en_))
   have E := mA s
   have W := mA u
   clear s D u
   have G := mA (show (d l ∨ w.heap.size ≤ l) from (b.out.1 _ rfl))
   obtain ⟨I, J⟩ := yB 0 b.out (a : Int) p5 q5
   replace p5 := eq_true p5
   replace q5 := eq_true q5
   have n := yE b.out (a : Int) i
   go_wp2_with (first | ((with_reducible refine Zbh (t := 2) (p := 15) rfl ?_); refine Zcv (t := 2) (p := 15) (w1 := (wr.setCell ⟨l, (a : Int).toNat, none⟩ (.int .i64 i))) ?_; intro w8 hw; have hg : wr.grownBy w8 (some l) := (by rw [hw]; exact n.2); have hp_ : Kd.R (Kd.int .i64) 2 w8 w0.heap.size (fun k_ => (d k_ ∨ w.heap.size ≤ k_)) (.slice (some ⟨l, 0, none⟩) g.length A) m := (by rw [hw, o.out]; exact n.1); clear n; replace HB := mA ((by rw [hw]; exact Za8 (HB.out) E.out : Below w0.heap.size w0 w8)); replace HK := mA (Kept.of_grown (S := (fun k_ => d k_)) hg (kW) (fun k_ e_ => (b.out.1 k_ e_))); replace b := mA (hp_); clear hg hw hp_))
   go_roundg k1
   case measure => have := q.out; omega
   case rel => exact ⟨(m), (wrap64 (i + 1)), (wrap64 (a + 1)), (eW), (eW), H', ⟨by have := q.out; omega⟩, ⟨rP b.out⟩, ⟨kW⟩, ⟨bW⟩⟩
def Zba.l0 : Nat → List (List Int) → Int → Int → Option (Int × List (List Int))
 | 0, _, _, _ => none
 | k + 1, x0, x1, x2 => if x2 < (x0.length : Int) then (if 0 ≤ x2 then ((Zbj.f k (rdOf ([] : List Int) x0 x2) x1).bind fun bt => Zba.l0 k (x0.set (x2 : Int).toNat bt.2) bt.1 (wrap64 (x2 + 1))) else none) else some (x1, x0)
def Zba.f (k : Nat) (l0 : List (List Int)) (a1 : Int) : Option (Int × List (List Int)) := Zba.l0 k l0 a1 0
theorem Zba.calls (k : Nat) (b : Nat → Prop) (a : Value) (l0 : List (List Int)) (a1 : Int) (r1 : Int) (r2 : List (List Int)) (w0 w : World) (hB : Below w0.heap.size w0 w) (d : Kd.S (Kd.slice 2 (Kd.int .i64)) 33 w w0.heap.size b a l0) (h : Zba.f k l0 a1 = some (r1, r2)) :
    Calls Try.prog 26 #[a, .int .i64 a1] w fun e w' => e = .returned (.int .i64 r1) ∧ Kd.S (Kd.slice 2 (Kd.int .i64)) 33 w' w0.heap.size (fun k_ => b k_) a r2 ∧ Below w0.heap.size w0 w' ∧ Kept w w' (fun k_ => b k_) := by
  obtain ⟨A0, c0, hu⟩ := yC d
  subst hu
  have HO := mA d
  have HB := mA hB
  have HK := mA (Kept.refl w (fun k_ => b k_))
  clear d hB
  have H' := mA (show Zba.l0 k l0 a1 0 = some (r1, r2) from h)
  clear h
  go_enter Try.func26, Try.ntmps26
  go_wp2
  go_loopg [1, 5] k (fun kq v1 v5 w' => ∃ (x0 : List (List Int)) (x1 : Int) (x2 : Int), v1 = .int .i64 x1 ∧ v5 = .int .i64 x2 ∧ Zad (Zba.l0 kq x0 x1 x2 = some (r1, r2)) ∧ Zad (kq ≤ k) ∧ Zad (x0.length = l0.length) ∧ Zad (Kd.S (Kd.slice 2 (Kd.int .i64)) 33 w' w0.heap.size b (.slice A0 l0.length c0) x0) ∧ Zad (Below w0.heap.size w0 w') ∧ Zad (Kept w w' (fun k_ => b k_)))
  case atStart => exact ⟨l0, a1, 0, (eW), (eW), H', ⟨Nat.le_refl _⟩, ⟨rfl⟩, HO, HB, HK⟩
  case round =>
    clear H' HO HB HK
    obtain ⟨x0, x1, x2, rfl, rfl, HA, i, HL, HO, HB, HK⟩ := hrel
    cases gk with
    | zero => exact absurd HA.out (by simp [Zba.l0])
    | succ k1 =>
      have H := HA.out
      clear HA
      simp only [Zba.l0] at H
      rw [HL.out] at H
      by_cases c4 : x2 < (l0.length : Int); rotate_left
      · rw [if_neg c4] at H
        have j := dF c4
        simp only [Option.some.injEq, Prod.mk.injEq] at H
        obtain ⟨rfl, rfl⟩ := H
        go_wp2
        go_ret
        exact ⟨eW, HO.out, HB.out, HK.out⟩
      rw [if_pos c4] at H
      have j := dT c4
      by_cases c5 : 0 ≤ x2; rotate_left
      · rw [if_neg c5] at H
        exact absurd H (by simp)
      rw [if_pos c5] at H
      have p := dT c5
      obtain ⟨⟨t1, t2⟩, A60, H⟩ := bE H
      have A6 := mA A60
      have H' := mA (show Zba.l0 k1 (x0.set x2.toNat t2) t1 (wrap64 (x2 + 1)) = some (r1, r2) from H)
      clear A60 H
      obtain ⟨g, hg⟩ : ∃ g, A0 = some ⟨g, 0, none⟩ := by
        obtain ⟨ad, _, hA, _⟩ := Zce.get_ (zW HO.out).2.2 ([] : List Int) x2 c5 (by have := HL.out; omega)
        subst hA
        obtain ⟨g, e⟩ := Kd.R_head (Kd.S_R HO.out)
        exact ⟨g, by rw [e]⟩
      subst hg
      obtain ⟨oki, c, _, ⟨v, hc, hR⟩, hx, hlend, hH⟩ := Kd.S_lend HO.out ([] : List Int) x2 c5 (by omega)
      subst hc
      have l := hx 0 v rfl
      have HR := mA hR
      have HH := mA hH
      have HE := mA hlend
      have q := eq_true c5
      have r := eq_true c4
      clear hR hH hlend hx c4 c5 HO
      simp only [show (Kd.slice 2 (Kd.int .i64)).sz = 1 from rfl, Nat.mul_one, Nat.add_zero] at l
      go_wp2_with (first | ((with_reducible refine Zat (f := 22) rfl ?_); refine Zbi (some 17) Try.func22 #[v, .int .i64 x1] ?_; (with_reducible refine (Zbj.calls _ oki v _ x1 t1 t2 w0 _ HB.out HR.out A6.out).mono ?_); rintro e w' ⟨rfl, hy, hb, hkp⟩; refine ⟨_, rfl, ?_⟩; have m := mA (Kd.H_back (Kd.H_kept HH.out hkp (fun _ _ h_ => h_)) (x' := t2) (okp := oki) ⟨v, rfl, Kd.R_reok rfl hy (fun k_ e_ => HR.out.1 k_ e_)⟩ (fun _ h_ => h_)); have n := mA (Kept.then_ HK.out hkp (fun k_ h_ => .inl (HE.out k_ h_).1)); have o := mA hb; clear hy hb hkp HH HR HK HB))
      go_roundg k1
      case measure => have := i.out; omega
      case rel => exact ⟨_, _, _, (eW), (eW), H', ⟨by have := i.out; omega⟩, ⟨by rw [List.length_set]; exact HL.out⟩, m, o, n⟩
def Zb9.f (k : Nat) (b : Int) (c : Int) (d : Int) (a : List (List Int)) (a1 : Int) : Option (Int × List (List Int)) := Zba.f k a a1
theorem Zb9.calls (k : Nat) (g : Int) (i : Int) (j : Int) (a : Nat → Prop) (c : Value) (b : List (List Int)) (a1 : Int) (r1 : Int) (r2 : List (List Int)) (w0 w : World) (hB : Below w0.heap.size w0 w) (d : Kd.S (Kd.slice 2 (Kd.int .i64)) 33 w w0.heap.size a c b) (h : Zb9.f k g i j b a1 = some (r1, r2)) :
    Calls Try.prog 14 #[.agg #[.int .i64 g, .int .i64 i, .int .i64 j, c], .int .i64 a1] w fun e w' => e = .returned (.int .i64 r1) ∧ Kd.S (Kd.slice 2 (Kd.int .i64)) 33 w' w0.heap.size (fun k_ => a k_) c r2 ∧ Below w0.heap.size w0 w' ∧ Kept w w' (fun k_ => a k_) := by
  obtain ⟨A0, c0, hu⟩ := yC d
  subst hu
  have hu_ := Try.underlying26
  have HO := mA d
  have HB := mA hB
  have A3 := mA (show Zba.f k b a1 = some (r1, r2) from h)
  clear d hB h
  go_enter Try.func14, Try.ntmps14
  go_wp2_with (first | ((with_reducible refine Zar (N := 2) rfl ?_); refine boxS (N := 2) (cs := #[.int .i64 g, .int .i64 i, .int .i64 j, .slice A0 b.length c0]) (t := 26) ?_; intro gb hg w2 hbox hb; obtain ⟨r, s, u, v⟩ := Zaz hbox; have l := mA (zQ HO.out hb); have m := mA (Zaf HB.out hb); have n := mA (Kept.of_below hb (fun k_ => a k_)); clear hb hbox HO HB hg) | ((with_reducible refine Zat (f := 26) rfl ?_); refine Zbi (some 8) Try.func26 #[.slice A0 b.length c0, .int .i64 a1] ?_; (with_reducible refine (Zba.calls k a _ b a1 r1 r2 w0 _ m.out l.out A3.out).mono ?_); rintro e w' ⟨rfl, hy, hb, hkp⟩; refine ⟨_, rfl, ?_⟩; have o := mA hy; have p := mA hb; have q := mA (Kept.then_ n.out hkp (fun k_ h_ => .inl h_)); clear hy hb hkp l m n))
  go_ret
  exact ⟨eW, o.out, p.out, q.out⟩
def Zbg.l0 : Nat → List Int → Int → Int → Option (Int)
 | 0, _, _, _ => none
 | k + 1, x0, x1, x5 => if x5 < (x0.length : Int) then (if 0 ≤ x5 then (if (rd x0 x5) = x1 then (Zbg.l0 k x0 (wrap64 (x1 + 1)) (wrap64 (x5 + 1))) else (some (-1))) else (none)) else (some x1)
def Zbg.f (k : Nat) (l0 : List Int) (a1 : Int) : Option (Int) := Zbg.l0 k l0 a1 0
theorem Zbg.calls (k : Nat) (A0 : Option Addr) (c0 : Nat) (l0 : List Int) (a1 : Int) (r : Int) (w : World) (l : Kd.C (Kd.int .i64) w A0 l0.length l0) (m : l0.length ≤ c0) (h : Zbg.f k l0 a1 = some r) :
  Calls Try.prog 66 #[.slice A0 l0.length c0, .int .i64 a1] w fun e w' => e = .returned (.int .i64 r) ∧ Zas w w' := by
 have n := mA l
 have t := mA m
 clear l m
 unfold Zbg.f at h
 have H := h
 clear h
 have H' := mA H
 clear H
 go_enter Try.func66, Try.ntmps66
 go_wp2
 go_loopg [1, 5] k (fun kq v1 v5 w' => ∃ (b : Int) (a : Int), v1 = .int .i64 b ∧ v5 = .int .i64 a ∧ Zad (Zbg.l0 kq l0 b a = some r) ∧ Zad (kq ≤ k) ∧ Zas w w')
 case atStart => exact ⟨(a1), (0), (eW), (eW), H', ⟨Nat.le_refl _⟩, by repeat (first | exact Zas.refl _ | apply Zas.step)⟩
 case round =>
  clear H'
  try clear p2
  obtain ⟨b, a, rfl, rfl, HA, HK1, ⟨m1, rfl⟩⟩ := hrel
  cases gk with
  | zero => exact absurd HA.out (by simp [Zbg.l0])
  | succ k1 =>
   have H := HA.out
   clear HA
   simp only [Zbg.l0] at H
   by_cases c3 : a < (l0.length : Int); rotate_left
   ·rw [if_neg c3] at H
    have o := dF c3
    clear c3
    obtain rfl := oI H
    go_wp2
    go_ret
    exact ⟨eW, by repeat (first | exact Zas.refl _ | apply Zas.step)⟩
   rw [if_pos c3] at H
   have o := dT c3
   clear c3
   by_cases c4 : 0 ≤ a; rotate_left
   ·rw [if_neg c4] at H
    exact absurd H (by simp)
   rw [if_pos c4] at H
   have s := dT c4
   clear c4
   by_cases c5 : (rd l0 a) = b; rotate_left
   ·rw [if_neg c5] at H
    have p : ((rd l0 a) == b) = false := beq_eq_false_iff_ne.mpr c5
    have q : ((rd l0 a) != b) = true := bne_iff_ne.mpr c5
    obtain rfl := oI H
    have c : 0 ≤ (a : Int) := ofD
    have d : a < (l0.length : Int) := ofD
    obtain ⟨j, g, i⟩ := zL n.out a c d
    cases g
    replace c := eq_true c
    replace d := eq_true d
    go_wp2
    go_ret
    exact ⟨eW, by repeat (first | exact Zas.refl _ | apply Zas.step)⟩
   rw [if_pos c5] at H
   have p : ((rd l0 a) == b) = true := beq_iff_eq.mpr c5
   have q : ((rd l0 a) != b) = false := bne_eq_false_iff_eq.mpr c5
   clear c5
   have H' := mA H
   clear H
   have c : 0 ≤ (a : Int) := ofD
   have d : a < (l0.length : Int) := ofD
   obtain ⟨j, g, i⟩ := zL n.out a c d
   cases g
   replace c := eq_true c
   replace d := eq_true d
   go_wp2
   go_roundg k1
   case measure => have := HK1.out; omega
   case rel => exact ⟨(wrap64 (b + 1)), (wrap64 (a + 1)), (eW), (eW), H', ⟨by have := HK1.out; omega⟩, by repeat (first | exact Zas.refl _ | apply Zas.step)⟩
def Zbd.l0 : Nat → List (List Int) → Int → Int → Option (Int)
 | 0, _, _, _ => none
 | k + 1, x0, x1, x5 => if x5 < (x0.length : Int) then (if 0 ≤ x5 then ((Zbg.f k (Zah x0 x5) x1).bind fun a => (if a < 0 then (some (-1)) else (Zbd.l0 k x0 a (wrap64 (x5 + 1))))) else (none)) else (some x1)
def Zbd.f (k : Nat) (l0 : List (List Int)) (a1 : Int) : Option (Int) := Zbd.l0 k l0 a1 0
theorem Zbd.calls (k : Nat) (A0 : Option Addr) (c0 : Nat) (l0 : List (List Int)) (a1 : Int) (r : Int) (w : World) (t : Kd.C (Kd.slice 2 (Kd.int .i64)) w A0 l0.length l0) (u : l0.length ≤ c0) (h : Zbd.f k l0 a1 = some r) :
  Calls Try.prog 27 #[.slice A0 l0.length c0, .int .i64 a1] w fun e w' => e = .returned (.int .i64 r) ∧ Zas w w' := by
 have v := mA t
 have B := mA u
 clear t u
 unfold Zbd.f at h
 have H := h
 clear h
 have H' := mA H
 clear H
 go_enter Try.func27, Try.ntmps27
 go_wp2
 go_loopg [1, 5] k (fun kq v1 v5 w' => ∃ (d : Int) (a : Int), v1 = .int .i64 d ∧ v5 = .int .i64 a ∧ Zad (Zbd.l0 kq l0 d a = some r) ∧ Zad (kq ≤ k) ∧ Zas w w')
 case atStart => exact ⟨(a1), (0), (eW), (eW), H', ⟨Nat.le_refl _⟩, by repeat (first | exact Zas.refl _ | apply Zas.step)⟩
 case round =>
  clear H'
  try clear c2
  try clear p2
  obtain ⟨d, a, rfl, rfl, HA, HK1, ⟨m1, rfl⟩⟩ := hrel
  cases gk with
  | zero => exact absurd HA.out (by simp [Zbd.l0])
  | succ k1 =>
   have H := HA.out
   clear HA
   simp only [Zbd.l0] at H
   by_cases c3 : a < (l0.length : Int); rotate_left
   ·rw [if_neg c3] at H
    have y := dF c3
    clear c3
    obtain rfl := oI H
    go_wp2
    go_ret
    exact ⟨eW, by repeat (first | exact Zas.refl _ | apply Zas.step)⟩
   rw [if_pos c3] at H
   have y := dT c3
   clear c3
   by_cases c4 : 0 ≤ a; rotate_left
   ·rw [if_neg c4] at H
    exact absurd H (by simp)
   rw [if_pos c4] at H
   have A := dT c4
   clear c4
   replace H := bE H
   obtain ⟨o, x, H⟩ := H
   have A5 := mA x
   clear x
   by_cases c6 : o < 0
   ·rw [if_pos c6] at H
    have z := dT c6
    clear c6
    obtain rfl := oI H
    have g : 0 ≤ (a : Int) := ofD
    have i : a < (l0.length : Int) := ofD
    obtain ⟨s, m, n, p, q, b, c⟩ := Zca v.out a g i
    cases p
    have j := mA c
    have l := mA b
    clear c b
    replace g := eq_true g
    replace i := eq_true i
    go_wp2_with (first | ((with_reducible refine Zat (f := 66) rfl ?_); refine Zbi (some 17) Try.func66 #[.slice m (Zah l0 a).length n, .int .i64 d] ?_; (with_reducible refine (Zbg.calls k1 _ _ (Zah l0 a) d o _ ?side1 ?side2 A5.out).mono ?_); (case side1 => exact cP j.out); (case side2 => exact l.out); rintro e w' ⟨rfl, ⟨nd, rfl⟩⟩; refine ⟨_, rfl, ?_⟩))
    go_ret
    exact ⟨eW, by repeat (first | exact Zas.refl _ | apply Zas.step)⟩
   rw [if_neg c6] at H
   have z := dF c6
   clear c6
   have H' := mA H
   clear H
   have g : 0 ≤ (a : Int) := ofD
   have i : a < (l0.length : Int) := ofD
   obtain ⟨s, m, n, p, q, b, c⟩ := Zca v.out a g i
   cases p
   have j := mA c
   have l := mA b
   clear c b
   replace g := eq_true g
   replace i := eq_true i
   go_wp2_with (first | ((with_reducible refine Zat (f := 66) rfl ?_); refine Zbi (some 17) Try.func66 #[.slice m (Zah l0 a).length n, .int .i64 d] ?_; (with_reducible refine (Zbg.calls k1 _ _ (Zah l0 a) d o _ ?side1 ?side2 A5.out).mono ?_); (case side1 => exact cP j.out); (case side2 => exact l.out); rintro e w' ⟨rfl, ⟨nd, rfl⟩⟩; refine ⟨_, rfl, ?_⟩))
   go_roundg k1
   case measure => have := HK1.out; omega
   case rel => exact ⟨(o), (wrap64 (a + 1)), (eW), (eW), H', ⟨by have := HK1.out; omega⟩, by repeat (first | exact Zas.refl _ | apply Zas.step)⟩
def Zb0.f (k : Nat) (c : Int) (d : Int) (e : Int) (b : List (List Int)) (a1 : Int) : Option (Int) := (Zbd.f k b a1).bind fun a => (if a < 0 then (some (-1)) else (some a))
theorem Zb0.calls (k : Nat) (g : Int) (i : Int) (j : Int) (c : Option Addr) (d : Nat) (a : List (List Int)) (a1 : Int) (r : Int) (w : World) (m : Kd.C (Kd.slice 2 (Kd.int .i64)) w c a.length a) (n : a.length ≤ d) (h : Zb0.f k g i j a a1 = some r) :
  Calls Try.prog 15 #[.agg #[.int .i64 g, .int .i64 i, .int .i64 j, .slice c a.length d], .int .i64 a1] w fun e w' => e = .returned (.int .i64 r) ∧ Below w.heap.size w w' := by
 have W := Try.underlying26
 have o := mA m
 have p := mA n
 clear m n
 have HB := mA (Below.refl w.heap.size w)
 unfold Zb0.f at h
 have H := h
 clear h
 replace H := bE H
 obtain ⟨l, v, H⟩ := H
 have A3 := mA v
 clear v
 by_cases c4 : l < 0
 ·rw [if_pos c4] at H
  have x := dT c4
  clear c4
  obtain rfl := oI H
  go_enter Try.func15, Try.ntmps15
  go_wp2_with (first | ((with_reducible refine Zar (N := 2) rfl ?_); refine boxS (N := 2) (cs := #[.int .i64 g, .int .i64 i, .int .i64 j, .slice c a.length d]) (t := 26) ?_; intro q hg w5 hbox hb; have b := mA (hbox); have s := geW (w := w) hg; have u := geW (w := w) hg; replace HB := mA (Zaf (bW) hb); clear hb hbox hg; obtain ⟨y, z, A, B⟩ := Zaz b.out; obtain ⟨D, E, G, I⟩ := frz4 b.out) | ((with_reducible refine Zat (f := 27) rfl ?_); refine Zbi (some 8) Try.func27 #[.slice c a.length d, .int .i64 a1] ?_; (with_reducible refine (Zbd.calls k _ _ a a1 l _ ?side1 ?side2 A3.out).mono ?_); (case side1 => exact cP (zO o.out HB.out)); (case side2 => exact p.out); rintro e w' ⟨rfl, ⟨nd, rfl⟩⟩; refine ⟨_, rfl, ?_⟩))
  go_ret
  exact ⟨eW, bW⟩
 rw [if_neg c4] at H
 have x := dF c4
 clear c4
 obtain rfl := oI H
 go_enter Try.func15, Try.ntmps15
 go_wp2_with (first | ((with_reducible refine Zar (N := 2) rfl ?_); refine boxS (N := 2) (cs := #[.int .i64 g, .int .i64 i, .int .i64 j, .slice c a.length d]) (t := 26) ?_; intro q hg w7 hbox hb; have b := mA (hbox); have s := geW (w := w) hg; have u := geW (w := w) hg; replace HB := mA (Zaf (bW) hb); clear hb hbox hg; obtain ⟨J, K, L, M⟩ := Zaz b.out; obtain ⟨O, P, T, U⟩ := frz4 b.out) | ((with_reducible refine Zat (f := 27) rfl ?_); refine Zbi (some 8) Try.func27 #[.slice c a.length d, .int .i64 a1] ?_; (with_reducible refine (Zbd.calls k _ _ a a1 l _ ?side1 ?side2 A3.out).mono ?_); (case side1 => exact cP (zO o.out HB.out)); (case side2 => exact p.out); rintro e w' ⟨rfl, ⟨nd, rfl⟩⟩; refine ⟨_, rfl, ?_⟩))
 go_ret
 exact ⟨eW, bW⟩
end Go.Proofs.Ytgindgodfcfgkaa.P
end M0
