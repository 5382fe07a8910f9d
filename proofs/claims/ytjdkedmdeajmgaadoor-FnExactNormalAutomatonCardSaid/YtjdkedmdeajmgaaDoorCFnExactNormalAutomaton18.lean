import Derived.Test.YtjdkedmdeajmgaaDoorCFnExactNormalAutomaton17
set_option maxHeartbeats 8000000
set_option maxRecDepth 100000
section M0
namespace Go.Proofs.YtjdkedmdeajmgaaDoor.P
open Go.RowKit Go.Proofs.YtjdkedmdeajmgaaDoor.Sh Go.Proofs.YtjdkedmdeajmgaaDoorW.PrintWords Go.Proofs.YtjdkedmdeajmgaaDoorW.PrintLast Go.Proofs.YtjdkedmdeajmgaaDoorW.PrintMore
open Kd
attribute [local go_sem] Zcf Zch Zcv Zcu Zb6 Zb7 Zcg Zce   -- for this text's walks alone
set_option linter.unusedVariables false
set_option linter.unusedSimpArgs false
def Zc6.f (k : Nat) (b : Int) (c : Int) (d : Int) (a : List (List Int)) (a1 : Int) : Option (Int × List (List Int)) := Zbh.f k a a1
theorem Zc6.calls (k : Nat) (g : Int) (i : Int) (j : Int) (a : Nat → Prop) (c : Value) (b : List (List Int)) (a1 : Int) (r1 : Int) (r2 : List (List Int)) (w0 w : World) (hB : Below w0.heap.size w0 w) (d : Kd.S (Kd.slice 2 (Kd.int .i64)) 22 w w0.heap.size a c b) (h : Zc6.f k g i j b a1 = some (r1, r2)) :
    Calls Tryd.prog 21 #[.agg #[.int .i64 g, .int .i64 i, .int .i64 j, c], .int .i64 a1] w fun e w' => e = .returned (.int .i64 r1) ∧ Kd.S (Kd.slice 2 (Kd.int .i64)) 22 w' w0.heap.size (fun k_ => a k_) c r2 ∧ Below w0.heap.size w0 w' ∧ Kept w w' (fun k_ => a k_) := by
  obtain ⟨A0, c0, hu⟩ := yE d
  subst hu
  have hu_ := Tryd.underlying39
  have HO := mA d
  have HB := mA hB
  have A3 := mA (show Zbh.f k b a1 = some (r1, r2) from h)
  clear d hB h
  go_enter Tryd.func21, Tryd.ntmps21
  go_wp2_with (first | ((with_reducible refine Zat (N := 2) rfl ?_); refine boxS (N := 2) (cs := #[.int .i64 g, .int .i64 i, .int .i64 j, .slice A0 b.length c0]) (t := 39) ?_; intro gb hg w2 hbox hb; obtain ⟨r, s, u, v⟩ := Zbl hbox; have l := mA (zW HO.out hb); have m := mA (Zaf HB.out hb); have n := mA (Kept.of_below hb (fun k_ => a k_)); clear hb hbox HO HB hg) | ((with_reducible refine Zax (f := 28) rfl ?_); refine Zbi (some 8) Tryd.func28 #[.slice A0 b.length c0, .int .i64 a1] ?_; (with_reducible refine (Zbh.calls k a _ b a1 r1 r2 w0 _ m.out l.out A3.out).mono ?_); rintro e w' ⟨rfl, hy, hb, hkp⟩; refine ⟨_, rfl, ?_⟩; have o := mA hy; have p := mA hb; have q := mA (Kept.then_ n.out hkp (fun k_ h_ => .inl h_)); clear hy hb hkp l m n))
  go_ret
  exact ⟨eW, o.out, p.out, q.out⟩
def Zbn.l0 : Nat → List Int → Int → Int → Option (Int)
 | 0, _, _, _ => none
 | k + 1, x0, x1, x5 => if x5 < (x0.length : Int) then (if 0 ≤ x5 then (if (rd x0 x5) = x1 then (Zbn.l0 k x0 (wrap64 (x1 + 1)) (wrap64 (x5 + 1))) else (some (-1))) else (none)) else (some x1)
def Zbn.f (k : Nat) (l0 : List Int) (a1 : Int) : Option (Int) := Zbn.l0 k l0 a1 0
theorem Zbn.calls (k : Nat) (A0 : Option Addr) (c0 : Nat) (l0 : List Int) (a1 : Int) (r : Int) (w : World) (l : Kd.C (Kd.int .i64) w A0 l0.length l0) (m : l0.length ≤ c0) (h : Zbn.f k l0 a1 = some r) :
  Calls Tryd.prog 85 #[.slice A0 l0.length c0, .int .i64 a1] w fun e w' => e = .returned (.int .i64 r) ∧ Zaw w w' := by
 have n := mA l
 have t := mA m
 clear l m
 unfold Zbn.f at h
 have H := h
 clear h
 have H' := mA H
 clear H
 go_enter Tryd.func85, Tryd.ntmps85
 go_wp2
 go_loopg [1, 5] k (fun kq v1 v5 w' => ∃ (b : Int) (a : Int), v1 = .int .i64 b ∧ v5 = .int .i64 a ∧ Zac (Zbn.l0 kq l0 b a = some r) ∧ Zac (kq ≤ k) ∧ Zaw w w')
 case atStart => exact ⟨(a1), (0), (eW), (eW), H', ⟨Nat.le_refl _⟩, by repeat (first | exact Zaw.refl _ | apply Zaw.step)⟩
 case round =>
  clear H'
  try clear p2
  obtain ⟨b, a, rfl, rfl, HA, HK1, ⟨m1, rfl⟩⟩ := hrel
  cases gk with
  | zero => exact absurd HA.out (by simp [Zbn.l0])
  | succ k1 =>
   have H := HA.out
   clear HA
   simp only [Zbn.l0] at H
   by_cases c3 : a < (l0.length : Int); rotate_left
   ·rw [if_neg c3] at H
    have o := dF c3
    clear c3
    obtain rfl := oI H
    go_wp2
    go_ret
    exact ⟨eW, by repeat (first | exact Zaw.refl _ | apply Zaw.step)⟩
   rw [if_pos c3] at H
   have o := dT c3
   clear c3
   obtain ⟨s, H⟩ := gE H
   by_cases c5 : (rd l0 a) = b; rotate_left
   ·rw [if_neg c5] at H
    have p : ((rd l0 a) == b) = false := beq_eq_false_iff_ne.mpr c5
    have q : ((rd l0 a) != b) = true := bne_iff_ne.mpr c5
    obtain rfl := oI H
    have c : 0 ≤ (a : Int) := ofD
    have d : a < (l0.length : Int) := ofD
    obtain ⟨j, g, i⟩ := zO n.out a c d
    cases g
    replace c := eq_true c
    replace d := eq_true d
    go_wp2
    go_ret
    exact ⟨eW, by repeat (first | exact Zaw.refl _ | apply Zaw.step)⟩
   rw [if_pos c5] at H
   have p : ((rd l0 a) == b) = true := beq_iff_eq.mpr c5
   have q : ((rd l0 a) != b) = false := bne_eq_false_iff_eq.mpr c5
   clear c5
   have H' := mA H
   clear H
   have c : 0 ≤ (a : Int) := ofD
   have d : a < (l0.length : Int) := ofD
   obtain ⟨j, g, i⟩ := zO n.out a c d
   cases g
   replace c := eq_true c
   replace d := eq_true d
   go_wp2
   go_roundg k1
   case measure => have := HK1.out; omega
   case rel => exact ⟨(wrap64 (b + 1)), (wrap64 (a + 1)), (eW), (eW), H', ⟨by have := HK1.out; omega⟩, by repeat (first | exact Zaw.refl _ | apply Zaw.step)⟩
def Zbj.l0 : Nat → List (List Int) → Int → Int → Option (Int)
 | 0, _, _, _ => none
 | k + 1, x0, x1, x5 => if x5 < (x0.length : Int) then (if 0 ≤ x5 then ((Zbn.f k (Zam x0 x5) x1).bind fun a => (if a < 0 then (some (-1)) else (Zbj.l0 k x0 a (wrap64 (x5 + 1))))) else (none)) else (some x1)
def Zbj.f (k : Nat) (l0 : List (List Int)) (a1 : Int) : Option (Int) := Zbj.l0 k l0 a1 0
theorem Zbj.calls (k : Nat) (A0 : Option Addr) (c0 : Nat) (l0 : List (List Int)) (a1 : Int) (r : Int) (w : World) (t : Kd.C (Kd.slice 2 (Kd.int .i64)) w A0 l0.length l0) (u : l0.length ≤ c0) (h : Zbj.f k l0 a1 = some r) :
  Calls Tryd.prog 36 #[.slice A0 l0.length c0, .int .i64 a1] w fun e w' => e = .returned (.int .i64 r) ∧ Zaw w w' := by
 have v := mA t
 have A := mA u
 clear t u
 unfold Zbj.f at h
 have H := h
 clear h
 have H' := mA H
 clear H
 go_enter Tryd.func36, Tryd.ntmps36
 go_wp2
 go_loopg [1, 5] k (fun kq v1 v5 w' => ∃ (d : Int) (a : Int), v1 = .int .i64 d ∧ v5 = .int .i64 a ∧ Zac (Zbj.l0 kq l0 d a = some r) ∧ Zac (kq ≤ k) ∧ Zaw w w')
 case atStart => exact ⟨(a1), (0), (eW), (eW), H', ⟨Nat.le_refl _⟩, by repeat (first | exact Zaw.refl _ | apply Zaw.step)⟩
 case round =>
  clear H'
  try clear p2
  obtain ⟨d, a, rfl, rfl, HA, HK1, ⟨m1, rfl⟩⟩ := hrel
  cases gk with
  | zero => exact absurd HA.out (by simp [Zbj.l0])
  | succ k1 =>
   have H := HA.out
   clear HA
   simp only [Zbj.l0] at H
   by_cases c3 : a < (l0.length : Int); rotate_left
   ·rw [if_neg c3] at H
    have x := dF c3
    clear c3
    obtain rfl := oI H
    go_wp2
    go_ret
    exact ⟨eW, by repeat (first | exact Zaw.refl _ | apply Zaw.step)⟩
   rw [if_pos c3] at H
   have x := dT c3
   clear c3
   obtain ⟨z, H⟩ := gE H
   obtain ⟨o, A5, H⟩ := bA H
   by_cases c6 : o < 0
   ·rw [if_pos c6] at H
    have y := dT c6
    clear c6
    obtain rfl := oI H
    have g : 0 ≤ (a : Int) := ofD
    have i : a < (l0.length : Int) := ofD
    obtain ⟨s, m, n, p, q, b, c⟩ := at_L3 v.out a g i
    cases p
    have j := mA c
    have l := mA b
    clear c b
    replace g := eq_true g
    replace i := eq_true i
    go_wp2_with (first | ((with_reducible refine Zax (f := 85) rfl ?_); refine Zbi (some 17) Tryd.func85 #[.slice m (Zam l0 a).length n, .int .i64 d] ?_; (with_reducible refine (Zbn.calls k1 _ _ (Zam l0 a) d o _ ?side1 ?side2 A5.out).mono ?_); (case side1 => exact cP j.out); (case side2 => exact l.out); rintro e w' ⟨rfl, ⟨nd, rfl⟩⟩; refine ⟨_, rfl, ?_⟩))
    go_ret
    exact ⟨eW, by repeat (first | exact Zaw.refl _ | apply Zaw.step)⟩
   rw [if_neg c6] at H
   have y := dF c6
   clear c6
   have H' := mA H
   clear H
   have g : 0 ≤ (a : Int) := ofD
   have i : a < (l0.length : Int) := ofD
   obtain ⟨s, m, n, p, q, b, c⟩ := at_L3 v.out a g i
   cases p
   have j := mA c
   have l := mA b
   clear c b
   replace g := eq_true g
   replace i := eq_true i
   go_wp2_with (first | ((with_reducible refine Zax (f := 85) rfl ?_); refine Zbi (some 17) Tryd.func85 #[.slice m (Zam l0 a).length n, .int .i64 d] ?_; (with_reducible refine (Zbn.calls k1 _ _ (Zam l0 a) d o _ ?side1 ?side2 A5.out).mono ?_); (case side1 => exact cP j.out); (case side2 => exact l.out); rintro e w' ⟨rfl, ⟨nd, rfl⟩⟩; refine ⟨_, rfl, ?_⟩))
   go_roundg k1
   case measure => have := HK1.out; omega
   case rel => exact ⟨(o), (wrap64 (a + 1)), (eW), (eW), H', ⟨by have := HK1.out; omega⟩, by repeat (first | exact Zaw.refl _ | apply Zaw.step)⟩
def Zca.f (k : Nat) (c : Int) (d : Int) (e : Int) (b : List (List Int)) (a1 : Int) : Option (Int) := (Zbj.f k b a1).bind fun a => (if a < 0 then (some (-1)) else (some a))
theorem Zca.calls (k : Nat) (g : Int) (i : Int) (j : Int) (c : Option Addr) (d : Nat) (a : List (List Int)) (a1 : Int) (r : Int) (w : World) (m : Kd.C (Kd.slice 2 (Kd.int .i64)) w c a.length a) (n : a.length ≤ d) (h : Zca.f k g i j a a1 = some r) :
  Calls Tryd.prog 22 #[.agg #[.int .i64 g, .int .i64 i, .int .i64 j, .slice c a.length d], .int .i64 a1] w fun e w' => e = .returned (.int .i64 r) ∧ Below w.heap.size w w' := by
 have U := Tryd.underlying39
 have o := mA m
 have p := mA n
 clear m n
 have HB := mA (Below.refl w.heap.size w)
 unfold Zca.f at h
 have H := h
 clear h
 obtain ⟨l, A3, H⟩ := bA H
 by_cases c4 : l < 0
 ·rw [if_pos c4] at H
  have v := dT c4
  clear c4
  obtain rfl := oI H
  go_enter Tryd.func22, Tryd.ntmps22
  go_wp2_with (first | ((with_reducible refine Zat (N := 2) rfl ?_); refine boxS (N := 2) (cs := #[.int .i64 g, .int .i64 i, .int .i64 j, .slice c a.length d]) (t := 39) ?_; intro q hg w5 hbox hb; have b := mA (hbox); have s := geW (w := w) hg; have u := geW (w := w) hg; replace HB := mA (Zaf (bW) hb); clear hb hbox hg; obtain ⟨x, y, z, A⟩ := Zbl b.out; obtain ⟨B, D, E, G⟩ := frz4 b.out) | ((with_reducible refine Zax (f := 36) rfl ?_); refine Zbi (some 8) Tryd.func36 #[.slice c a.length d, .int .i64 a1] ?_; (with_reducible refine (Zbj.calls k _ _ a a1 l _ ?side1 ?side2 A3.out).mono ?_); (case side1 => exact cP (zQ o.out HB.out)); (case side2 => exact p.out); rintro e w' ⟨rfl, ⟨nd, rfl⟩⟩; refine ⟨_, rfl, ?_⟩))
  go_ret
  exact ⟨eW, bW⟩
 rw [if_neg c4] at H
 have v := dF c4
 clear c4
 obtain rfl := oI H
 go_enter Tryd.func22, Tryd.ntmps22
 go_wp2_with (first | ((with_reducible refine Zat (N := 2) rfl ?_); refine boxS (N := 2) (cs := #[.int .i64 g, .int .i64 i, .int .i64 j, .slice c a.length d]) (t := 39) ?_; intro q hg w7 hbox hb; have b := mA (hbox); have s := geW (w := w) hg; have u := geW (w := w) hg; replace HB := mA (Zaf (bW) hb); clear hb hbox hg; obtain ⟨I, J, K, L⟩ := Zbl b.out; obtain ⟨M, O, P, T⟩ := frz4 b.out) | ((with_reducible refine Zax (f := 36) rfl ?_); refine Zbi (some 8) Tryd.func36 #[.slice c a.length d, .int .i64 a1] ?_; (with_reducible refine (Zbj.calls k _ _ a a1 l _ ?side1 ?side2 A3.out).mono ?_); (case side1 => exact cP (zQ o.out HB.out)); (case side2 => exact p.out); rintro e w' ⟨rfl, ⟨nd, rfl⟩⟩; refine ⟨_, rfl, ?_⟩))
 go_ret
 exact ⟨eW, bW⟩
end Go.Proofs.YtjdkedmdeajmgaaDoor.P
end M0
