import Derived.Test.YtgindgodfcfgkaaCFnExactResidualOf9
section M0
namespace Go.Proofs.Ytgindgodfcfgkaa.P
open Go.RowKit Go.Proofs.Ytgindgodfcfgkaa.Sh Go.Proofs.YtgindgodfcfgkaaW.PrintWords Go.Proofs.YtgindgodfcfgkaaW.PrintLast Go.Proofs.YtgindgodfcfgkaaW.PrintMore
open Kd
attribute [local go_sem] Zcc Zcd Zck Zcl Zb2 Zb3 Zce Zcb   -- for this text's walks alone
set_option linter.unusedVariables false
set_option linter.unusedSimpArgs false
def Zbq.l0 : Nat → List Int → Int → Int → Int → Int → List (List Int) → List Bool → Option (Bool)
 | 0, _, _, _, _, _, _, _ => none
 | k + 1, x1, x2, x3, x9, b, a, c => if x9 < b then (if 0 ≤ x2 then (if x2 < (a.length : Int) then (if 0 ≤ x9 then (if x9 < ((Zah a x2).length : Int) then ((Za8.f x1 (rd (Zah a x2) x9)).bind fun d => (if 0 ≤ x3 then (if x3 < (a.length : Int) then (if x9 < ((Zah a x3).length : Int) then ((Za8.f x1 (rd (Zah a x3) x9)).bind fun e => (if d = e then (Zbq.l0 k x1 x2 x3 (wrap64 (x9 + 1)) b a c) else (some false))) else (none)) else (none)) else (none))) else (none)) else (none)) else (none)) else (none)) else (some true)
def Zbq.f (k : Nat) (a : Int) (b : List (List Int)) (c : List Bool) (l1 : List Int) (a2 : Int) (a3 : Int) : Option (Bool) := if 0 ≤ a2 then (if a2 < (l1.length : Int) then (if 0 ≤ a3 then (if a3 < (l1.length : Int) then (if (rd l1 a2) = (rd l1 a3) then (Zbq.l0 k l1 a2 a3 0 a b c) else (some false)) else (none)) else (none)) else (none)) else (none)
set_option maxHeartbeats 8000000 in
set_option maxRecDepth 100000 in
theorem Zbq.calls (k : Nat) (D : Int) (L : Option Addr) (M : Nat) (a : List (List Int)) (O : Option Addr) (P : Nat) (B : List Bool) (A1 : Option Addr) (c1 : Nat) (l1 : List Int) (a2 : Int) (a3 : Int) (r : Bool) (w : World) (az : Kd.C (Kd.slice 2 (Kd.int .i64)) w L a.length a) (aA : a.length ≤ M) (aB : Kd.C Kd.bool w O B.length B) (aC : B.length ≤ P) (aV : Kd.C (Kd.int .i64) w A1 l1.length l1) (aW : l1.length ≤ c1) (h : Zbq.f k D a B l1 a2 a3 = some r) :
  Calls Try.prog 113 #[.agg #[.int .i64 D, .slice L a.length M, .slice O B.length P], .slice A1 l1.length c1, .int .i64 a2, .int .i64 a3] w fun e w' => e = .returned (.bool r) ∧ Below w.heap.size w w' := by
 have bC := Try.underlying95
 have ab := mA az
 have bq := mA aA
 clear az aA
 have br := mA aB
 have bs := mA aC
 clear aB aC
 have A := mA aV
 have ag := mA aW
 clear aV aW
 have HB := mA (Below.refl w.heap.size w)
 unfold Zbq.f at h
 have H := h
 clear h
 by_cases c5 : 0 ≤ a2; rotate_left
 ·rw [if_neg c5] at H
  exact absurd H (by simp)
 rw [if_pos c5] at H
 have a0 := dT c5
 clear c5
 by_cases c6 : a2 < (l1.length : Int); rotate_left
 ·rw [if_neg c6] at H
  exact absurd H (by simp)
 rw [if_pos c6] at H
 have a1 := dT c6
 clear c6
 by_cases c7 : 0 ≤ a3; rotate_left
 ·rw [if_neg c7] at H
  exact absurd H (by simp)
 rw [if_pos c7] at H
 have a4 := dT c7
 clear c7
 by_cases c8 : a3 < (l1.length : Int); rotate_left
 ·rw [if_neg c8] at H
  exact absurd H (by simp)
 rw [if_pos c8] at H
 have a5 := dT c8
 clear c8
 by_cases c9 : (rd l1 a2) = (rd l1 a3); rotate_left
 ·rw [if_neg c9] at H
  have aL : ((rd l1 a2) == (rd l1 a3)) = false := beq_eq_false_iff_ne.mpr c9
  have aM : ((rd l1 a2) != (rd l1 a3)) = true := bne_iff_ne.mpr c9
  obtain rfl := oI H
  go_enter Try.func113, Try.ntmps113
  go_wp2_with (first | ((with_reducible refine Zap (N := 4) rfl ?_); refine boxS (N := 4) (cs := #[.int .i64 D, .slice L a.length M, .slice O B.length P]) (t := 95) ?_; intro z hg aX hbox hb; have j := mA (hbox); have an := geW (w := w) hg; have ao := geW (w := w) hg; replace HB := mA (Zaf (bW) hb); clear hb hbox hg; have n : 0 ≤ (a2 : Int) := ofD; have o : a2 < (l1.length : Int) := ofD; obtain ⟨E, T, c⟩ := zO A.out a2 n o; cases T; replace c := (HB.out.cell (wB w c)).trans c; replace n := eq_true n; replace o := eq_true o; have p : 0 ≤ (a3 : Int) := ofD; have q : a3 < (l1.length : Int) := ofD; obtain ⟨G, U, d⟩ := zO A.out a3 p q; obtain rfl : E = G := (by injection U); replace d := (HB.out.cell (wB w d)).trans d; replace p := eq_true p; replace q := eq_true q))
  repeat (go_quiet (first | ((with_reducible refine Zap (N := 4) rfl ?_); refine boxS (N := 4) (cs := #[.int .i64 D, .slice L a.length M, .slice O B.length P]) (t := 95) ?_; intro z hg aX hbox hb; have j := mA (hbox); have an := geW (w := w) hg; have ao := geW (w := w) hg; replace HB := mA (Zaf (bW) hb); clear hb hbox hg; have n : 0 ≤ (a2 : Int) := ofD; have o : a2 < (l1.length : Int) := ofD; obtain ⟨E, T, c⟩ := zO A.out a2 n o; cases T; replace c := (HB.out.cell (wB w c)).trans c; replace n := eq_true n; replace o := eq_true o; have p : 0 ≤ (a3 : Int) := ofD; have q : a3 < (l1.length : Int) := ofD; obtain ⟨G, U, d⟩ := zO A.out a3 p q; obtain rfl : E = G := (by injection U); replace d := (HB.out.cell (wB w d)).trans d; replace p := eq_true p; replace q := eq_true q)); try go_wp2_with (first | ((with_reducible refine Zap (N := 4) rfl ?_); refine boxS (N := 4) (cs := #[.int .i64 D, .slice L a.length M, .slice O B.length P]) (t := 95) ?_; intro z hg aX hbox hb; have j := mA (hbox); have an := geW (w := w) hg; have ao := geW (w := w) hg; replace HB := mA (Zaf (bW) hb); clear hb hbox hg; have n : 0 ≤ (a2 : Int) := ofD; have o : a2 < (l1.length : Int) := ofD; obtain ⟨E, T, c⟩ := zO A.out a2 n o; cases T; replace c := (HB.out.cell (wB w c)).trans c; replace n := eq_true n; replace o := eq_true o; have p : 0 ≤ (a3 : Int) := ofD; have q : a3 < (l1.length : Int) := ofD; obtain ⟨G, U, d⟩ := zO A.out a3 p q; obtain rfl : E = G := (by injection U); replace d := (HB.out.cell (wB w d)).trans d; replace p := eq_true p; replace q := eq_true q)))
  go_ret
  exact ⟨eW, bW⟩
 rw [if_pos c9] at H
 have aL : ((rd l1 a2) == (rd l1 a3)) = true := beq_iff_eq.mpr c9
 have aM : ((rd l1 a2) != (rd l1 a3)) = false := bne_eq_false_iff_eq.mpr c9
 clear c9
 have H' := mA H
 clear H
 go_enter Try.func113, Try.ntmps113
 go_wp2_with (first | ((with_reducible refine Zap (N := 4) rfl ?_); refine boxS (N := 4) (cs := #[.int .i64 D, .slice L a.length M, .slice O B.length P]) (t := 95) ?_; intro z hg aY hbox hb; have j := mA (hbox); have an := geW (w := w) hg; have ao := geW (w := w) hg; replace HB := mA (Zaf (bW) hb); clear hb hbox hg; have n : 0 ≤ (a2 : Int) := ofD; have o : a2 < (l1.length : Int) := ofD; obtain ⟨E, T, c⟩ := zO A.out a2 n o; cases T; replace c := (HB.out.cell (wB w c)).trans c; replace n := eq_true n; replace o := eq_true o; have p : 0 ≤ (a3 : Int) := ofD; have q : a3 < (l1.length : Int) := ofD; obtain ⟨G, U, d⟩ := zO A.out a3 p q; obtain rfl : E = G := (by injection U); replace d := (HB.out.cell (wB w d)).trans d; replace p := eq_true p; replace q := eq_true q))
 repeat (go_quiet (first | ((with_reducible refine Zap (N := 4) rfl ?_); refine boxS (N := 4) (cs := #[.int .i64 D, .slice L a.length M, .slice O B.length P]) (t := 95) ?_; intro z hg aY hbox hb; have j := mA (hbox); have an := geW (w := w) hg; have ao := geW (w := w) hg; replace HB := mA (Zaf (bW) hb); clear hb hbox hg; have n : 0 ≤ (a2 : Int) := ofD; have o : a2 < (l1.length : Int) := ofD; obtain ⟨E, T, c⟩ := zO A.out a2 n o; cases T; replace c := (HB.out.cell (wB w c)).trans c; replace n := eq_true n; replace o := eq_true o; have p : 0 ≤ (a3 : Int) := ofD; have q : a3 < (l1.length : Int) := ofD; obtain ⟨G, U, d⟩ := zO A.out a3 p q; obtain rfl : E = G := (by injection U); replace d := (HB.out.cell (wB w d)).trans d; replace p := eq_true p; replace q := eq_true q)); try go_wp2_with (first | ((with_reducible refine Zap (N := 4) rfl ?_); refine boxS (N := 4) (cs := #[.int .i64 D, .slice L a.length M, .slice O B.length P]) (t := 95) ?_; intro z hg aY hbox hb; have j := mA (hbox); have an := geW (w := w) hg; have ao := geW (w := w) hg; replace HB := mA (Zaf (bW) hb); clear hb hbox hg; have n : 0 ≤ (a2 : Int) := ofD; have o : a2 < (l1.length : Int) := ofD; obtain ⟨E, T, c⟩ := zO A.out a2 n o; cases T; replace c := (HB.out.cell (wB w c)).trans c; replace n := eq_true n; replace o := eq_true o; have p : 0 ≤ (a3 : Int) := ofD; have q : a3 < (l1.length : Int) := ofD; obtain ⟨G, U, d⟩ := zO A.out a3 p q; obtain rfl : E = G := (by injection U); replace d := (HB.out.cell (wB w d)).trans d; replace p := eq_true p; replace q := eq_true q)))
 go_loopg [9] k (fun kq v9 w' => ∃ (b : Int), v9 = .int .i64 b ∧ Zad (Zbq.l0 kq l1 a2 a3 b D a B = some r) ∧ Zad (kq ≤ k) ∧ Zad (w'.heap[z]? = some (.cells #[.int .i64 D, (.slice L a.length M), (.slice O B.length P)] 95 (0, 0))) ∧ Zad (Below w.heap.size w w'))
 case atStart => exact ⟨(0), (eW), H', ⟨Nat.le_refl _⟩, ⟨bP j.out⟩, ⟨bW⟩⟩
 case round =>
  clear H'
  try clear c1
  try clear p1
  try clear q1
  try clear hx1
  try clear p2
  try clear c5
  try clear a0
  try clear c6
  try clear a1
  try clear c7
  try clear a4
  try clear c8
  try clear a5
  try clear c9
  try clear aL
  try clear aM
  try clear c
  try clear d
  try clear n
  try clear p
  try clear o
  try clear q
  obtain ⟨b, rfl, HA, aZ, j, HB⟩ := hrel
  cases gk with
  | zero => exact absurd HA.out (by simp [Zbq.l0])
  | succ k1 =>
   have H := HA.out
   clear HA
   simp only [Zbq.l0] at H
   by_cases au : b < D; rotate_left
   ·rw [if_neg au] at H
    have aR := dF au
    clear au
    obtain rfl := oI H
    have a6 : wr.cell? ⟨z, 0, none⟩ = some (.int .i64 D) := bc j 0
    have a7 : wr.cell? ⟨z, 1, none⟩ = some (.slice L a.length M) := bc j 1
    have a8 : wr.cell? ⟨z, 2, none⟩ = some (.slice O B.length P) := bc j 2
    have a9 := Zae j.out 0
    have ba := Zae j.out 1
    have bb := Zae j.out 2
    go_wp2
    repeat (go_quiet (fail); try go_wp2)
    go_ret
    exact ⟨eW, bW⟩
   rw [if_pos au] at H
   have aR := dT au
   clear au
   by_cases aD : 0 ≤ a2; rotate_left
   ·rw [if_neg aD] at H
    exact absurd H (by simp)
   rw [if_pos aD] at H
   have bu := dT aD
   clear aD
   by_cases aE : a2 < (a.length : Int); rotate_left
   ·rw [if_neg aE] at H
    exact absurd H (by simp)
   rw [if_pos aE] at H
   have bv := dT aE
   clear aE
   by_cases aF : 0 ≤ b; rotate_left
   ·rw [if_neg aF] at H
    exact absurd H (by simp)
   rw [if_pos aF] at H
   have bw := dT aF
   clear aF
   by_cases aG : b < ((Zah a a2).length : Int); rotate_left
   ·rw [if_neg aG] at H
    exact absurd H (by simp)
   rw [if_pos aG] at H
   have bx := dT aG
   clear aG
   replace H := bE H
   obtain ⟨W, aN, H⟩ := H
   have av := mA aN
   clear aN
   by_cases aH : 0 ≤ a3; rotate_left
   ·rw [if_neg aH] at H
    exact absurd H (by simp)
   rw [if_pos aH] at H
   have bz := dT aH
   clear aH
   by_cases aI : a3 < (a.length : Int); rotate_left
   ·rw [if_neg aI] at H
    exact absurd H (by simp)
   rw [if_pos aI] at H
   have bA := dT aI
   clear aI
   by_cases aJ : b < ((Zah a a3).length : Int); rotate_left
   ·rw [if_neg aJ] at H
    exact absurd H (by simp)
   rw [if_pos aJ] at H
   have bB := dT aJ
   clear aJ
   replace H := bE H
   obtain ⟨X, aO, H⟩ := H
   have aw := mA aO
   clear aO
   by_cases ar : W = X; rotate_left
   ·rw [if_neg ar] at H
    have aS : (W == X) = false := beq_eq_false_iff_ne.mpr ar
    have aT : (W != X) = true := bne_iff_ne.mpr ar
    obtain rfl := oI H
    have bd : wr.cell? ⟨z, 0, none⟩ = some (.int .i64 D) := bc j 0
    have bf : wr.cell? ⟨z, 1, none⟩ = some (.slice L a.length M) := bc j 1
    have bg : wr.cell? ⟨z, 2, none⟩ = some (.slice O B.length P) := bc j 2
    have bh := Zae j.out 0
    have bi := Zae j.out 1
    have bj := Zae j.out 2
    have aj : 0 ≤ (a2 : Int) := ofD
    have ak : a2 < (a.length : Int) := ofD
    obtain ⟨af, aP, aQ, ax, J, ac, ad⟩ := Zca ab.out a2 aj ak
    cases ax
    replace J := (HB.out.cell (wB w J)).trans J
    have aq := mA ad
    have aK := mA ac
    clear ad ac
    replace aj := eq_true aj
    replace ak := eq_true ak
    have al : 0 ≤ (b : Int) := ofD
    have am : b < ((Zah a a2).length : Int) := ofD
    obtain ⟨aU, ay, K⟩ := zO aq.out b al am
    cases ay
    replace K := (HB.out.cell (wB w K)).trans K
    replace al := eq_true al
    replace am := eq_true am
    go_wp2_with (first | (go_at_call 103; (with_reducible refine (Za8.calls _ _ l1 (rd (Zah a a2) b) W _ ?side1 ?side2 av.out).mono ?_); (case side1 => exact cP (zL A.out HB.out)); (case side2 => exact ag.out); rintro e w' ⟨rfl, ⟨nd, rfl⟩⟩; (try first | exact dwD | exact dwE); have s : 0 ≤ (a3 : Int) := ofD; have u : a3 < (a.length : Int) := ofD; obtain ⟨I, ah, ai, Y, g, l, m⟩ := Zca ab.out a3 s u; obtain rfl : af = I := (by injection Y); replace g := (HB.out.cell (wB w g)).trans g; have y := mA m; have ae := mA l; clear m l; replace s := eq_true s; replace u := eq_true u; have v : 0 ≤ (b : Int) := ofD; have x : b < ((Zah a a3).length : Int) := ofD; obtain ⟨ap, aa, i⟩ := zO y.out b v x; cases aa; replace i := (HB.out.cell (wB w i)).trans i; replace v := eq_true v; replace x := eq_true x) | (go_at_call 103; (with_reducible refine (Za8.calls _ _ l1 (rd (Zah a a3) b) X _ ?side1 ?side2 aw.out).mono ?_); (case side1 => exact cP (zL A.out (bW))); (case side2 => exact ag.out); rintro e w' ⟨rfl, ⟨nd, rfl⟩⟩; (try first | exact dwD | exact dwE)))
    repeat (go_quiet (first | (go_at_call 103; (with_reducible refine (Za8.calls _ _ l1 (rd (Zah a a2) b) W _ ?side1 ?side2 av.out).mono ?_); (case side1 => exact cP (zL A.out HB.out)); (case side2 => exact ag.out); rintro e w' ⟨rfl, ⟨nd, rfl⟩⟩; (try first | exact dwD | exact dwE); have s : 0 ≤ (a3 : Int) := ofD; have u : a3 < (a.length : Int) := ofD; obtain ⟨I, ah, ai, Y, g, l, m⟩ := Zca ab.out a3 s u; obtain rfl : af = I := (by injection Y); replace g := (HB.out.cell (wB w g)).trans g; have y := mA m; have ae := mA l; clear m l; replace s := eq_true s; replace u := eq_true u; have v : 0 ≤ (b : Int) := ofD; have x : b < ((Zah a a3).length : Int) := ofD; obtain ⟨ap, aa, i⟩ := zO y.out b v x; cases aa; replace i := (HB.out.cell (wB w i)).trans i; replace v := eq_true v; replace x := eq_true x) | (go_at_call 103; (with_reducible refine (Za8.calls _ _ l1 (rd (Zah a a3) b) X _ ?side1 ?side2 aw.out).mono ?_); (case side1 => exact cP (zL A.out (bW))); (case side2 => exact ag.out); rintro e w' ⟨rfl, ⟨nd, rfl⟩⟩; (try first | exact dwD | exact dwE))); try go_wp2_with (first | (go_at_call 103; (with_reducible refine (Za8.calls _ _ l1 (rd (Zah a a2) b) W _ ?side1 ?side2 av.out).mono ?_); (case side1 => exact cP (zL A.out HB.out)); (case side2 => exact ag.out); rintro e w' ⟨rfl, ⟨nd, rfl⟩⟩; (try first | exact dwD | exact dwE); have s : 0 ≤ (a3 : Int) := ofD; have u : a3 < (a.length : Int) := ofD; obtain ⟨I, ah, ai, Y, g, l, m⟩ := Zca ab.out a3 s u; obtain rfl : af = I := (by injection Y); replace g := (HB.out.cell (wB w g)).trans g; have y := mA m; have ae := mA l; clear m l; replace s := eq_true s; replace u := eq_true u; have v : 0 ≤ (b : Int) := ofD; have x : b < ((Zah a a3).length : Int) := ofD; obtain ⟨ap, aa, i⟩ := zO y.out b v x; cases aa; replace i := (HB.out.cell (wB w i)).trans i; replace v := eq_true v; replace x := eq_true x) | (go_at_call 103; (with_reducible refine (Za8.calls _ _ l1 (rd (Zah a a3) b) X _ ?side1 ?side2 aw.out).mono ?_); (case side1 => exact cP (zL A.out (bW))); (case side2 => exact ag.out); rintro e w' ⟨rfl, ⟨nd, rfl⟩⟩; (try first | exact dwD | exact dwE))))
    go_ret
    exact ⟨eW, bW⟩
   rw [if_pos ar] at H
   have aS : (W == X) = true := beq_iff_eq.mpr ar
   have aT : (W != X) = false := bne_eq_false_iff_eq.mpr ar
   clear ar
   have H' := mA H
   clear H
   have bk : wr.cell? ⟨z, 0, none⟩ = some (.int .i64 D) := bc j 0
   have bl : wr.cell? ⟨z, 1, none⟩ = some (.slice L a.length M) := bc j 1
   have bm : wr.cell? ⟨z, 2, none⟩ = some (.slice O B.length P) := bc j 2
   have bn := Zae j.out 0
   have bo := Zae j.out 1
   have bp := Zae j.out 2
   have aj : 0 ≤ (a2 : Int) := ofD
   have ak : a2 < (a.length : Int) := ofD
   obtain ⟨af, aP, aQ, ax, J, ac, ad⟩ := Zca ab.out a2 aj ak
   cases ax
   replace J := (HB.out.cell (wB w J)).trans J
   have aq := mA ad
   have aK := mA ac
   clear ad ac
   replace aj := eq_true aj
   replace ak := eq_true ak
   have al : 0 ≤ (b : Int) := ofD
   have am : b < ((Zah a a2).length : Int) := ofD
   obtain ⟨aU, ay, K⟩ := zO aq.out b al am
   cases ay
   replace K := (HB.out.cell (wB w K)).trans K
   replace al := eq_true al
   replace am := eq_true am
   go_wp2_with (first | (go_at_call 103; (with_reducible refine (Za8.calls _ _ l1 (rd (Zah a a2) b) W _ ?side1 ?side2 av.out).mono ?_); (case side1 => exact cP (zL A.out HB.out)); (case side2 => exact ag.out); rintro e w' ⟨rfl, ⟨nd, rfl⟩⟩; (try first | exact dwD | exact dwE); have s : 0 ≤ (a3 : Int) := ofD; have u : a3 < (a.length : Int) := ofD; obtain ⟨I, ah, ai, Y, g, l, m⟩ := Zca ab.out a3 s u; obtain rfl : af = I := (by injection Y); replace g := (HB.out.cell (wB w g)).trans g; have y := mA m; have ae := mA l; clear m l; replace s := eq_true s; replace u := eq_true u; have v : 0 ≤ (b : Int) := ofD; have x : b < ((Zah a a3).length : Int) := ofD; obtain ⟨ap, aa, i⟩ := zO y.out b v x; cases aa; replace i := (HB.out.cell (wB w i)).trans i; replace v := eq_true v; replace x := eq_true x) | (go_at_call 103; (with_reducible refine (Za8.calls _ _ l1 (rd (Zah a a3) b) X _ ?side1 ?side2 aw.out).mono ?_); (case side1 => exact cP (zL A.out (bW))); (case side2 => exact ag.out); rintro e w' ⟨rfl, ⟨nd, rfl⟩⟩; (try first | exact dwD | exact dwE)))
   repeat (go_quiet (first | (go_at_call 103; (with_reducible refine (Za8.calls _ _ l1 (rd (Zah a a2) b) W _ ?side1 ?side2 av.out).mono ?_); (case side1 => exact cP (zL A.out HB.out)); (case side2 => exact ag.out); rintro e w' ⟨rfl, ⟨nd, rfl⟩⟩; (try first | exact dwD | exact dwE); have s : 0 ≤ (a3 : Int) := ofD; have u : a3 < (a.length : Int) := ofD; obtain ⟨I, ah, ai, Y, g, l, m⟩ := Zca ab.out a3 s u; obtain rfl : af = I := (by injection Y); replace g := (HB.out.cell (wB w g)).trans g; have y := mA m; have ae := mA l; clear m l; replace s := eq_true s; replace u := eq_true u; have v : 0 ≤ (b : Int) := ofD; have x : b < ((Zah a a3).length : Int) := ofD; obtain ⟨ap, aa, i⟩ := zO y.out b v x; cases aa; replace i := (HB.out.cell (wB w i)).trans i; replace v := eq_true v; replace x := eq_true x) | (go_at_call 103; (with_reducible refine (Za8.calls _ _ l1 (rd (Zah a a3) b) X _ ?side1 ?side2 aw.out).mono ?_); (case side1 => exact cP (zL A.out (bW))); (case side2 => exact ag.out); rintro e w' ⟨rfl, ⟨nd, rfl⟩⟩; (try first | exact dwD | exact dwE))); try go_wp2_with (first | (go_at_call 103; (with_reducible refine (Za8.calls _ _ l1 (rd (Zah a a2) b) W _ ?side1 ?side2 av.out).mono ?_); (case side1 => exact cP (zL A.out HB.out)); (case side2 => exact ag.out); rintro e w' ⟨rfl, ⟨nd, rfl⟩⟩; (try first | exact dwD | exact dwE); have s : 0 ≤ (a3 : Int) := ofD; have u : a3 < (a.length : Int) := ofD; obtain ⟨I, ah, ai, Y, g, l, m⟩ := Zca ab.out a3 s u; obtain rfl : af = I := (by injection Y); replace g := (HB.out.cell (wB w g)).trans g; have y := mA m; have ae := mA l; clear m l; replace s := eq_true s; replace u := eq_true u; have v : 0 ≤ (b : Int) := ofD; have x : b < ((Zah a a3).length : Int) := ofD; obtain ⟨ap, aa, i⟩ := zO y.out b v x; cases aa; replace i := (HB.out.cell (wB w i)).trans i; replace v := eq_true v; replace x := eq_true x) | (go_at_call 103; (with_reducible refine (Za8.calls _ _ l1 (rd (Zah a a3) b) X _ ?side1 ?side2 aw.out).mono ?_); (case side1 => exact cP (zL A.out (bW))); (case side2 => exact ag.out); rintro e w' ⟨rfl, ⟨nd, rfl⟩⟩; (try first | exact dwD | exact dwE))))
   go_roundg k1
   case measure => have := aZ.out; omega
   case rel => exact ⟨(wrap64 (b + 1)), (eW), H', ⟨by have := aZ.out; omega⟩, ⟨bP j.out⟩, ⟨bW⟩⟩
end Go.Proofs.Ytgindgodfcfgkaa.P
end M0
