import Derived.Test.YtlmicipfikammaaDoorCFnExactLoopFault4
import Derived.Test.YtlmicipfikammaaDoorCFnExactLoopFault5
section
namespace Go.Proofs.YtlmicipfikammaaDoor.P
open Go.RowKit Go.Proofs.YtlmicipfikammaaDoor.Sh Go.Proofs.YtlmicipfikammaaDoorW.PrintWords Go.Proofs.YtlmicipfikammaaDoorW.PrintLast Go.Proofs.YtlmicipfikammaaDoorW.PrintMore
open Kd
attribute [local go_sem] Zb8 Zcb Zcm Zcl Zb4 Zb3 Zb7 Zcd   -- for this text's walks alone
set_option linter.unusedVariables false
set_option linter.unusedSimpArgs false
mutual
def Zav.l0 : Nat → Int → Int → Int → Int → List (List Int) → Int → List (List Int) → List Bool → Option (Int × (List (List Int)) × List Bool)
 | 0, _, _, _, _, _, _, _, _ => none
 | k + 1, x4, a, b, c, d, e, g, h => (Za4.f a b c d).bind fun i => (if x4 < i then ((Zb9.f a b c d x4).bind fun j => (Zav.l1 k x4 j (([] : List Int)) 0 a b c d e g h)) else (some (e, g, h)))
def Zav.l1 : Nat → Int → Int → List Int → Int → Int → Int → Int → List (List Int) → Int → List (List Int) → List Bool → Option (Int × (List (List Int)) × List Bool)
 | 0, _, _, _, _, _, _, _, _, _, _, _ => none
 | k + 1, x4, x5, x6, x7, b, d, c, a, h, e, g => if x7 < b then (if 0 ≤ x5 then (if x5 < (a.length : Int) then (if 0 ≤ x7 then (if x7 < ((Zae a x5).length : Int) then ((Zb9.f b d c a (rd (Zae a x5) x7)).bind fun i => (if x6.length < 17592186044416 then (Zav.l1 k x4 x5 (x6 ++ [i]) (wrap64 (x7 + 1)) b d c a h e g) else (none))) else (none)) else (none)) else (none)) else (none)) else (if e.length < 5864062014805 then ((Zaq.f c x5).bind fun j => (if g.length < 140737488355328 then (Zav.l0 k (wrap64 (x4 + 1)) b d c a h (e ++ [x6]) (g ++ [j])) else (none))) else (none))
end
def Zav.f (k : Nat) (a : Int) (b : Int) (c : Int) (d : List (List Int)) : Option (Int × (List (List Int)) × List Bool) := Zav.l0 k 0 a b c d a ([] : List (List Int)) ([] : List Bool)
def Zav.T10 : Bool × List (List Nat × List Nat) := (true, [([], []), ([], []), ([], []), ([2], [2]), ([], []), ([3, 4], [3, 4]), ([5], [5]), ([], []), ([6, 7], [6, 7]), ([8], [8]), ([1, 9], [1, 9]), ([10], [10]), ([0, 11, 10], [0, 11]), ([12, 12, 0, 1, 2, 3, 4, 5, 6, 7, 8, 9, 10, 11, 12], [0, 12])])
def Zav.B10 : List Nat := [0, 0, 0, 4, 0, 28, 60, 0, 252, 508, 1022, 2046, 4095, 8191]
theorem Zav.tab10 : rtab .any (opsOf Tryd.f85 10) = Zav.T10 := by kernel_rfl
theorem Zav.bits10 : waitsOk Zav.T10.2 Zav.B10 = true := by kernel_rfl
def Zav.T12 : Bool × List (List Nat × List Nat) := (true, [([], []), ([0], [0]), ([], []), ([2], [2]), ([], []), ([3, 4], [3, 4]), ([5], [5]), ([1, 6, 5], [1, 6]), ([0, 1, 2, 3, 4, 5, 6, 7], []), ([8, 7, 7, 0, 1, 2, 3, 4, 5, 6, 7], [7, 8])])
def Zav.B12 : List Nat := [0, 1, 0, 4, 0, 28, 60, 127, 255, 511]
theorem Zav.tab12 : rtab .any (opsOf Tryd.f85 12) = Zav.T12 := by kernel_rfl
theorem Zav.bits12 : waitsOk Zav.T12.2 Zav.B12 = true := by kernel_rfl
set_option maxHeartbeats 8000000 in
set_option maxRecDepth 100000 in
theorem Zav.calls (k : Nat) (m : Int) (A : Int) (z : Int) (L : Option Addr) (G : Nat) (r : List (List Int)) (r1 : Int) (r2 : List (List Int)) (r3 : List Bool) (w : World) (aK : Kd.C (Kd.slice 2 (Kd.int .i64)) w L r.length r) (aM : r.length ≤ G) (h : Zav.f k m A z r = some (r1, r2, r3)) :
  Calls Tryd.prog 85 #[.agg #[.int .i64 m, .int .i64 A, .int .i64 z, .slice L r.length G]] w fun e w' => ∃ bT bU : Value, e = .returned (.agg #[.int .i64 r1, bT, bU]) ∧ Kd.S (Kd.slice 2 (Kd.int .i64)) 22 w' w.heap.size (fun _ => True) bT r2 ∧ Kd.R Kd.bool 4 w' w.heap.size (fun _ => True) bU r3 ∧ Below w.heap.size w w' := by
 have dQ := Tryd.underlying34
 have dh := Tryd.underlying101
 have ah := mA aK
 have aj := mA aM
 clear aK aM
 have HB := mA (Below.refl w.heap.size w)
 unfold Zav.f at h
 have H := h
 clear h
 have H' := mA H
 clear H
 go_enter Tryd.func85, Tryd.ntmps85
 go_wp2_with (first | ((with_reducible refine Zan (N := 1) rfl ?_); refine boxS (N := 1) (cs := #[.int .i64 m, .int .i64 A, .int .i64 z, .slice L r.length G]) (t := 34) ?_; intro q hg w2 hbox hb; have a := mA (hbox); have di := geW (w := w) hg; have dj := geW (w := w) hg; replace HB := mA (Zac (bW) hb); clear hb hbox hg) | ((with_reducible refine Zan (N := 2) rfl ?_); refine boxS (N := 2) (cs := #[.int .i64 0, .slice none 0 0, .slice none 0 0]) (t := 101) ?_; intro J hg w3 hbox hb; have l := mA (hbox); have dk := geW (w := w) hg; have dl := geW (w := w) hg; replace HB := mA (Zac (bW) hb); have X := mA (neB hg a); have Y := mA (neC hg a); replace a := mA (blkB a.out hb); clear hb hbox hg; have dR := X.out; have dS := Y.out; obtain ⟨bk, bl, bm, bn⟩ := Zbk a.out; obtain ⟨bo, bp, bq, br⟩ := frz4 a.out) | ((with_reducible refine Zan (N := 3) rfl ?_); refine boxS (N := 3) (cs := #[.int .i64 0, .slice none 0 0, .slice none 0 0]) (t := 101) ?_; intro x hg w6 hbox hb; have c := mA (hbox); have dm := geW (w := w) hg; have dn := geW (w := w) hg; replace HB := mA (Zac (bW) hb); have B := mA (neB hg a); have T := mA (neC hg a); replace a := mA (blkB a.out hb); have E := mA (neB hg l); have aa := mA (neC hg l); replace l := mA (blkB l.out hb); clear hb hbox hg; have dU := T.out; have dV := B.out; have dW := aa.out; have dX := E.out; obtain ⟨bs, bu, bv⟩ := cells3 c.out; obtain ⟨bw, bx, bz⟩ := frz3 c.out))
 go_loopg [4] k (fun kq v4 w' => ∃ (ag : Int) (s : List (List Int)) (u : List Bool) (D : Value) (y : Value), v4 = .int .i64 ag ∧ Zab (Zav.l0 kq ag m A z r m s u = some (r1, r2, r3)) ∧ Zab (kq ≤ k) ∧ Zab (Kd.S (Kd.slice 2 (Kd.int .i64)) 22 w' w.heap.size (fun _ => True) D s) ∧ Zab (Kd.R Kd.bool 4 w' w.heap.size (fun _ => True) y u) ∧ Zab (w'.heap[q]? = some (.cells #[.int .i64 m, .int .i64 A, .int .i64 z, (.slice L r.length G)] 34 (0, 0))) ∧ Zab (w'.heap[J]? = some (.cells #[.int .i64 0, (.slice none 0 0), (.slice none 0 0)] 101 (0, 0))) ∧ Zab (w'.heap[x]? = some (.cells #[.int .i64 m, D, y] 101 (0, 0))) ∧ Zab (Below w.heap.size w w'))
 case atStart => exact ⟨(0), (([] : List (List Int))), (([] : List Bool)), (.slice none 0 0), (.slice none 0 0), (eW), H', ⟨Nat.le_refl _⟩, ⟨by first | exact Kd.S_nil _ _ _ _ _ | exact Kd.N_nil _ _ _ _ _ | exact Kd.V_nil _ _ _ _ _ | exact Kd.Q_nil _ _ _ _ _ | exact Kd.R_nil _ _ _ _ _⟩, ⟨by first | exact Kd.R_nil _ _ _ _ _ | exact Kd.N_nil _ _ _ _ _ | exact Kd.V_nil _ _ _ _ _ | exact Kd.Q_nil _ _ _ _ _ | exact Kd.S_nil _ _ _ _ _⟩, ⟨by (with_reducible repeat (first | refine Zai ?_ _ | refine Zah ?_ | refine Zag ?_ _)); refine Zbb ?_ B.out _; (with_reducible repeat (first | refine Zai ?_ _ | refine Zah ?_ | refine Zag ?_ _)); refine Zbb ?_ B.out _; (with_reducible repeat (first | refine Zai ?_ _ | refine Zah ?_ | refine Zag ?_ _)); refine Zbb ?_ B.out _; exact bP a.out⟩, ⟨by (with_reducible repeat (first | refine Zai ?_ _ | refine Zah ?_ | refine Zag ?_ _)); refine Zbb ?_ E.out _; (with_reducible repeat (first | refine Zai ?_ _ | refine Zah ?_ | refine Zag ?_ _)); refine Zbb ?_ E.out _; (with_reducible repeat (first | refine Zai ?_ _ | refine Zah ?_ | refine Zag ?_ _)); refine Zbb ?_ E.out _; exact bP l.out⟩, ⟨by (with_reducible repeat (first | refine Zai ?_ _ | refine Zah ?_ | refine Zag ?_ _)); refine Zbj (cs := #[.int .i64 m, .slice none 0 0, .slice none 0 0]) ?_ 2 _ rfl; (with_reducible repeat (first | refine Zai ?_ _ | refine Zah ?_ | refine Zag ?_ _)); refine Zbj (cs := #[.int .i64 m, .slice none 0 0, .slice none 0 0]) ?_ 1 _ rfl; (with_reducible repeat (first | refine Zai ?_ _ | refine Zah ?_ | refine Zag ?_ _)); refine Zbj (cs := #[.int .i64 0, .slice none 0 0, .slice none 0 0]) ?_ 0 _ rfl; exact bP c.out⟩, ⟨bW⟩⟩
 case round =>
  clear H' bk bl bm bn bs bu bv bo bp bq br bw bx bz
  obtain ⟨ag, s, u, D, y, rfl, HA, aN, j, d, a, l, c, HB⟩ := hrel
  cases gk with
  | zero => exact absurd HA.out (by simp [Zav.l0])
  | succ k1 =>
   have H := HA.out
   clear HA
   simp only [Zav.l0] at H
   obtain ⟨az, bV, H⟩ := bA H
   by_cases am : ag < az; rotate_left
   ·rw [if_neg am] at H
    have aQ := dF am
    clear am
    simp only [Option.some.injEq, Prod.mk.injEq] at H
    obtain ⟨rfl, rfl, rfl⟩ := H
    have dp := X.out
    have dq := Y.out
    have dr := B.out
    have dt := T.out
    have b6 : wr.cell? ⟨q, 0, none⟩ = some (.int .i64 m) := bc a 0
    have b7 : wr.cell? ⟨q, 1, none⟩ = some (.int .i64 A) := bc a 1
    have b8 : wr.cell? ⟨q, 2, none⟩ = some (.int .i64 z) := bc a 2
    have b9 : wr.cell? ⟨q, 3, none⟩ = some (.slice L r.length G) := bc a 3
    have ca := Zaa a.out 0
    have cb := Zaa a.out 1
    have cc := Zaa a.out 2
    have cd := Zaa a.out 3
    go_wp2_with (first | ((with_reducible refine Zal (f := 47) rfl ?_); refine Zbc (some 13) Tryd.func47 #[.agg #[.int .i64 m, .int .i64 A, .int .i64 z, .slice L r.length G]] ?_; (with_reducible refine (Za4.calls m A z _ _ r az _ ?side1 ?side2 bV.out).mono ?_); (case side1 => exact cP (zC ah.out HB.out)); (case side2 => exact aj.out); rintro e d3 ⟨rfl, hb⟩; refine ⟨_, rfl, ?_⟩; replace j := mA (yG (sP j.out) hb); replace d := mA (zG (rP d.out) hb); replace a := mA (blkB a.out hb); replace l := mA (blkB l.out hb); replace c := mA (blkB c.out hb); replace HB := mA (Zac (bW) hb); (try clear hb); (try clear hb2); (try clear hk); (try clear hi); have du := aa.out; have dv := E.out; obtain ⟨ce, cf, cg⟩ := cells3 c.out; obtain ⟨ch, ci, cj⟩ := frz3 c.out; obtain ⟨ck, cl, cm⟩ := cells3 l.out; obtain ⟨cn, co, cp⟩ := frz3 l.out; obtain ⟨ar, au, bZ⟩ := xB j.out; subst bZ; obtain ⟨aA, aC, b0⟩ := zH d.out; subst b0))
    refine bodyPost_ret (results_cell_row rfl _ _ J 101 #[.int .i64 m, .slice ar s.length au, .slice aA u.length aC] (0, 0) _ rfl (by (with_reducible repeat (first | refine Zai ?_ _ | refine Zah ?_ | refine Zag ?_ _)); refine Zbj (cs := #[.int .i64 m, .slice ar s.length au, .slice none 0 0]) ?_ 2 _ rfl; (with_reducible repeat (first | refine Zai ?_ _ | refine Zah ?_ | refine Zag ?_ _)); refine Zbj (cs := #[.int .i64 m, .slice none 0 0, .slice none 0 0]) ?_ 1 _ rfl; (with_reducible repeat (first | refine Zai ?_ _ | refine Zah ?_ | refine Zag ?_ _)); refine Zbj (cs := #[.int .i64 0, .slice none 0 0, .slice none 0 0]) ?_ 0 _ rfl; exact bP l.out) Tryd.underlying101 rfl (by kernel_rfl)) rfl ?_
    exact ⟨_, _, eW, by (with_reducible repeat (first | apply yH | apply yI | apply yB)); exact yD (zZ (p := ⟨J, 2, none⟩) (zZ (p := ⟨J, 1, none⟩) (zZ (p := ⟨J, 0, none⟩) (yN j.out l.out (by decide)) (fun _ hk => hk.2) (.int .i64 m)) (fun _ hk => hk.2) (.slice ar s.length au)) (fun _ hk => hk.2) (.slice aA u.length aC)) (fun _ hk => trivial), by (with_reducible repeat (first | apply zE | apply zD | apply zB)); exact zA (zJ (p := ⟨J, 2, none⟩) (zJ (p := ⟨J, 1, none⟩) (zJ (p := ⟨J, 0, none⟩) (yE d.out l.out (by decide)) (fun _ hk => hk.2) (.int .i64 m)) (fun _ hk => hk.2) (.slice ar s.length au)) (fun _ hk => hk.2) (.slice aA u.length aC)) (fun _ hk => trivial), bW⟩
   rw [if_pos am] at H
   have aQ := dT am
   clear am
   obtain ⟨U, c0, H⟩ := bA H
   obtain ⟨bB, av⟩ : ∃ y_ : List Int, y_ = (([] : List Int)) := ⟨_, rfl⟩
   replace H : (Zav.l1 k1 ag U bB 0 m A z r m s u) = some (r1, r2, r3) := by rw [av]; with_reducible exact H
   have aR := mA av
   clear av
   have H' := mA H
   clear H
   have dw := X.out
   have dx := Y.out
   have dy := B.out
   have dz := T.out
   have a2 : wr.cell? ⟨q, 0, none⟩ = some (.int .i64 m) := bc a 0
   have a3 : wr.cell? ⟨q, 1, none⟩ = some (.int .i64 A) := bc a 1
   have a4 : wr.cell? ⟨q, 2, none⟩ = some (.int .i64 z) := bc a 2
   have a5 : wr.cell? ⟨q, 3, none⟩ = some (.slice L r.length G) := bc a 3
   have a6 := Zaa a.out 0
   have a7 := Zaa a.out 1
   have a8 := Zaa a.out 2
   have a9 := Zaa a.out 3
   go_wp2_with (first | ((with_reducible refine Zal (f := 47) rfl ?_); refine Zbc (some 13) Tryd.func47 #[.agg #[.int .i64 m, .int .i64 A, .int .i64 z, .slice L r.length G]] ?_; (with_reducible refine (Za4.calls m A z _ _ r az _ ?side1 ?side2 bV.out).mono ?_); (case side1 => exact cP (zC ah.out HB.out)); (case side2 => exact aj.out); rintro e d4 ⟨rfl, hb⟩; refine ⟨_, rfl, ?_⟩; replace j := mA (yG (sP j.out) hb); replace d := mA (zG (rP d.out) hb); replace a := mA (blkB a.out hb); replace l := mA (blkB l.out hb); replace c := mA (blkB c.out hb); replace HB := mA (Zac (bW) hb); (try clear hb); (try clear hb2); (try clear hk); (try clear hi); obtain ⟨ba, bb, bd, bf⟩ := Zbk a.out; obtain ⟨bg, bh, bi, bj⟩ := frz4 a.out) | ((with_reducible refine Zal (f := 86) rfl ?_); refine Zbc (some 19) Tryd.func86 #[.agg #[.int .i64 m, .int .i64 A, .int .i64 z, .slice L r.length G], .int .i64 ag] ?_; (with_reducible refine (Zb9.calls m A z _ _ r ag U _ ?side1 ?side2 c0.out).mono ?_); (case side1 => exact cP (zC ah.out HB.out)); (case side2 => exact aj.out); rintro e d5 ⟨rfl, hb⟩; refine ⟨_, rfl, ?_⟩; replace j := mA (yG (sP j.out) hb); replace d := mA (zG (rP d.out) hb); replace a := mA (blkB a.out hb); replace l := mA (blkB l.out hb); replace c := mA (blkB c.out hb); replace HB := mA (Zac (bW) hb); (try clear hb); (try clear hb2); (try clear hk); (try clear hi)) | ((with_reducible refine Zan (N := 20) rfl ?_); refine yS (Kd.int .i64) _ 2 ?hg (N := 20) ?hd (xs := ([] : List Int)) (inner := []) (ok := fun _ => True) (okp := fun _ => True) ?hr ?hp (fun _ hk => hk) trivial (Below.refl _ _) (Nat.le_refl _) (by simp) ?_; (case hd => rfl); (case hg => rfl); (case hr => first | (go_simp; done) | (go_simp; rfl)); (case hp => exact (Reps.none _ _)); intro dY d6 ai hb hg_ hnew_; clear hg_ hnew_; (first | rw [← aR.out] at ai | (simp only [Int.reduceToNat] at ai; rw [← aR.out] at ai)); replace j := mA (xI (sP j.out) (zY ai) hb); replace d := mA (zG (rP d.out) hb); have bM := mA (zQ ai (Zao (bW))); replace a := mA (blkB a.out hb); replace l := mA (blkB l.out hb); replace c := mA (blkB c.out hb); replace HB := mA (Zac (bW) hb); clear hb ai))
   go_loopg [6, 7] k1 (fun kq v6 v7 w' => ∃ (ab : List Int) (Z : Int), v7 = .int .i64 Z ∧ Zab (Zav.l1 kq ag U ab Z m A z r m s u = some (r1, r2, r3)) ∧ Zab (kq ≤ k1) ∧ Zab (Kd.R (Kd.int .i64) 2 w' w.heap.size (fun _ => True) v6 ab) ∧ Zab (Kd.S (Kd.slice 2 (Kd.int .i64)) 22 w' w.heap.size (fun k_ => some k_ ≠ (v6 : Value).ownBlock) D s) ∧ Zab (Kd.R Kd.bool 4 w' w.heap.size (fun _ => True) y u) ∧ Zab (w'.heap[q]? = some (.cells #[.int .i64 m, .int .i64 A, .int .i64 z, (.slice L r.length G)] 34 (0, 0))) ∧ Zab (w'.heap[J]? = some (.cells #[.int .i64 0, (.slice none 0 0), (.slice none 0 0)] 101 (0, 0))) ∧ Zab (w'.heap[x]? = some (.cells #[.int .i64 m, D, y] 101 (0, 0))) ∧ Zab (Below w.heap.size w w'))
   case atStart => exact ⟨(bB), (0), (eW), H', ⟨Nat.le_refl _⟩, ⟨rP bM.out⟩, ⟨by (with_reducible repeat (first | apply yH | apply yI | apply yB)); exact yD j.out (fun _ hk => hk.2)⟩, ⟨rP d.out⟩, ⟨bP a.out⟩, ⟨bP l.out⟩, ⟨bP c.out⟩, ⟨bW⟩⟩
   case round =>
    clear H' aQ a2 a3 a4 a5 ba bb bd bf a6 a7 a8 a9 bg bh bi bj
    obtain ⟨ab, Z, rfl, HA, aT, M, j, d, a, l, c, HB⟩ := hrel
    cases gk with
    | zero => exact absurd HA.out (by simp [Zav.l1])
    | succ k2 =>
     have H := HA.out
     clear HA
     simp only [Zav.l1] at H
     by_cases an : Z < m
     ·rw [if_pos an] at H
      have bN := dT an
      clear an
      obtain ⟨dA, H⟩ := gE H
      obtain ⟨dB, H⟩ := gE H
      obtain ⟨dC, H⟩ := gE H
      obtain ⟨dD, H⟩ := gE H
      obtain ⟨aw, c1, H⟩ := bA H
      by_cases aU : ab.length < 17592186044416; rotate_left
      ·rw [if_neg aU] at H
       exact absurd H (by simp)
      rw [if_pos aU] at H
      have bO := mA aU
      clear aU
      obtain ⟨b1, aV⟩ := nm ((ab ++ [aw]) : List Int)
      rw [← aV.out] at H
      have H' := mA H
      clear H
      have dE := X.out
      have dG := Y.out
      have dH := B.out
      have dI := T.out
      have cq : wr.cell? ⟨q, 0, none⟩ = some (.int .i64 m) := bc a 0
      have cr : wr.cell? ⟨q, 1, none⟩ = some (.int .i64 A) := bc a 1
      have ct : wr.cell? ⟨q, 2, none⟩ = some (.int .i64 z) := bc a 2
      have cu : wr.cell? ⟨q, 3, none⟩ = some (.slice L r.length G) := bc a 3
      have cv := Zaa a.out 0
      have cw := Zaa a.out 1
      have cx := Zaa a.out 2
      have cy := Zaa a.out 3
      try go_wp2
      replace M := mA (zB M.out)
      replace j := mA (yB j.out)
      replace d := mA (zB d.out)
      replace a := mA (Zah a.out)
      replace l := mA (Zah l.out)
      replace c := mA (Zah c.out)
      replace HB := mA (Zbe HB.out)
      have aD : 0 ≤ (U : Int) := ofD
      have aE : U < (r.length : Int) := ofD
      obtain ⟨ak, da, bC, b2, ac, ao, ap⟩ := at_L1 ah.out U aD aE
      have ad := ac
      cases b2
      replace ac := (HB.out.cell (wB w ac)).trans ac
      have aq := mA ap
      have cz := mA ao
      clear ap ao
      replace aD := eq_true aD
      replace aE := eq_true aE
      have aG : 0 ≤ (Z : Int) := ofD
      have aH : Z < ((Zae r U).length : Int) := ofD
      obtain ⟨aW, b3, ae⟩ := zK aq.out Z aG aH
      have af := ae
      cases b3
      replace ae := (HB.out.cell (wB w ae)).trans ae
      replace aG := eq_true aG
      replace aH := eq_true aH
      refine start_ (n := 14) (S := fun w' => w'.cell? ⟨q, 0, none⟩ = some (.int .i64 m) ∧ w'.cell? ⟨q, 1, none⟩ = some (.int .i64 A) ∧ w'.cell? ⟨q, 2, none⟩ = some (.int .i64 z) ∧ w'.cell? ⟨q, 3, none⟩ = some (.slice (some ak) r.length G) ∧ w'.cell? (ak.add (U).toNat) = some (.slice (some aW) (Zae r U).length bC) ∧ w'.cell? (aW.add (Z).toNat) = some (.int .i64 (rd (Zae r U) Z))) (ds := []) #[false, false, false, false, false, false, false, false, false, false, false, false, false, false] (by kernel_rfl) rfl rfl ⟨bc a 0, bc a 1, bc a 2, bc a 3, (cB HB ad :), (cB HB af :)⟩ (fun hHeld => ?_); refine Zc6 Zav.tab10 Zav.bits10 (fun HT_ HW_ => ?_)
      generalize wr.drew = w31 at M j d a l c HB aq ac ae hHeld ⊢
      refine Za6 (i := 0) (N := some 27) (Zau HT_.out (by kernel_rfl)) ?_
      refine Za6 (i := 2) (N := some 29) (Zau HT_.out (by kernel_rfl)) ?_
      refine Za6 (i := 4) (N := some 31) (Zau HT_.out (by kernel_rfl)) ?_
      refine Za6 (i := 7) (N := some 34) (Zau HT_.out (by kernel_rfl)) ?_
      refine takeS (i := 1) (N := some 28) (Zbw HT_.out HW_.out (by kernel_rfl)) hHeld ?_
      refine takeS (i := 3) (N := some 30) (Zbw HT_.out HW_.out (by kernel_rfl)) hHeld ?_
      refine Za6 (i := 5) (N := some 32) (Zau HT_.out (by kernel_rfl)) ?_
      refine takeS (i := 6) (N := some 33) (Zbw HT_.out HW_.out (by kernel_rfl)) hHeld ?_
      refine Za6 (i := 8) (N := some 35) (Zau HT_.out (by kernel_rfl)) ?_
      refine takeS (i := 9) (N := some 36) (Zbw HT_.out HW_.out (by kernel_rfl)) hHeld ?_
      refine one_ (i := 10) (N := some 37) #[true, true, true, true, true, true, true, true, true, true, true, false, false, false] rfl rfl (Zcc HT_.out (by kernel_rfl)) (by decide) (fun K hK => ?_)
      refine goes_ Tryd.func86 (by kernel_rfl) rfl #[.agg #[.int .i64 m, .int .i64 A, .int .i64 z, .slice (some ak) r.length G], .int .i64 (rd (Zae r U) Z)] (by rfl) rfl rfl (by (try simp only [List.map_toArray, List.map_cons, List.map_nil]); first | done | rfl | (simp only [List.length_drop, List.length_take]; rfl)) ?_
      with_reducible refine (Zb9.calls m A z _ _ r (rd (Zae r U) Z) aw _ ?side1 ?side2 c1.out).mono ?_
      (case side1 => exact cP (zC ah.out HB.out))
      (case side2 => exact aj.out)
      rintro e d7 ⟨rfl, hb⟩
      refine ⟨_, rfl, ?_⟩
      replace M := mA (zG (rP M.out) hb)
      replace j := mA (yG (sP j.out) hb)
      replace d := mA (zG (rP d.out) hb)
      replace a := mA (blkB a.out hb)
      replace l := mA (blkB l.out hb)
      replace c := mA (blkB c.out hb)
      replace HB := mA (Zac (bW) hb)
      (try clear hb)
      (try clear hb2)
      (try clear hk)
      (try clear hi)
      refine hK.out _ _ ⟨bc a 0, bc a 1, bc a 2, bc a 3, (cB HB ad :), (cB HB af :)⟩ (fun hHeld => ?_)
      clear hK K
      refine putS 37 ?_
      refine one_ (i := 11) (N := some 38) #[true, true, true, true, true, true, true, true, true, true, true, true, false, false] rfl rfl (Zcc HT_.out (by kernel_rfl)) (by decide) (fun K hK => ?_)
      refine value_ (w1 := ?_) (v := ?_) (by rfl) rfl ?_ ?_
      rotate_left 2
      ·go_simp
       constructor
       ·rfl
       ·rfl
      refine hK.out _ _ ⟨(Zbu (Zag a.out _) 0).trans rfl, (Zbu (Zag a.out _) 1).trans rfl, (Zbu (Zag a.out _) 2).trans rfl, (Zbu (Zag a.out _) 3).trans rfl, (World.cell?_alloc_lt _ _ _ (World.block_lt_of_cell? _ _ ((cB HB ad :)))).trans ((cB HB ad :)), (World.cell?_alloc_lt _ _ _ (World.block_lt_of_cell? _ _ ((cB HB af :)))).trans ((cB HB af :))⟩ (fun hHeld => ?_)
      clear hK K
      refine putS 38 ?_
      refine one_ (i := 12) (N := some 39) #[true, true, true, true, true, true, true, true, true, true, true, true, true, false] rfl rfl (Zcc HT_.out (by kernel_rfl)) (by decide) (fun K hK => ?_)
      refine xJ (Kd.int .i64) (w0 := w) w.heap.size (by rfl) (.tmp 27) (.tmp 38) 22 2 (.int .i64 0) 8 rfl Tryd.underlying22 info2 rfl (by decide) (by omega) u6 ab aw [.int .i64 aw] (fun _ => True) (fun _ => False) rfl rfl ?aP (fun _ hk => hk.elim) ?aF ?aO ?aB ?aS ?aL ?_
      (case aP => exact rfl)
      (case aB => exact (bW))
      (case aF => exact (fun _ _ => trivial))
      (case aO => exact (rP M.out))
      (case aS => exact (Zao (bW)))
      (case aL => have := bO.out; omega)
      intro dZ d8 ho hb hg hat
      rw [← aV.out] at ho
      replace j := mA (Kd.S_after (ok := (fun _ => True)) (by (with_reducible repeat (first | apply yH | apply yI | apply yB)); exact yD j.out (fun _ hk => ⟨trivial, hk⟩)) hg hat)
      replace d := mA (zW (rP d.out) (zV (rP M.out)) (by decide) hg)
      replace a := mA (Zay (g := q) (o := .cells #[.int .i64 m, .int .i64 A, .int .i64 z, .slice (some ak) r.length G] 34 (0, 0)) (bP a.out) hg (zM M.out a.out (by decide)))
      replace l := mA (Zay (g := J) (o := .cells #[.int .i64 0, .slice none 0 0, .slice none 0 0] 101 (0, 0)) (bP l.out) hg (zM M.out l.out (by decide)))
      replace c := mA (Zay (g := x) (o := .cells #[.int .i64 m, D, y] 101 (0, 0)) (bP c.out) hg (zM M.out c.out (by decide)))
      replace HB := mA (hb)
      have bQ := mA (ho)
      clear M ho hb hg hat
      refine hK.out _ _ ⟨bc a 0, bc a 1, bc a 2, bc a 3, (cB HB ad :), (cB HB af :)⟩ (fun hHeld => ?_)
      clear hK K
      refine putS 39 ?_
      refine Za6 (i := 13) (N := some 6) (Zau HT_.out (by kernel_rfl)) ?_
      refine done_ (done_of HT_.out (by kernel_rfl)) ?_
      try go_wp2
      go_roundg k2
      case measure => have := aN.out; have := aT.out; omega
      case rel => exact ⟨(b1), (wrap64 (Z + 1)), (eW), H', ⟨by have := aN.out; have := aT.out; omega⟩, ⟨rP bQ.out⟩, ⟨by (with_reducible repeat (first | apply yH | apply yI | apply yB)); exact yD j.out (fun _ hk => hk.2)⟩, ⟨rP d.out⟩, ⟨bP a.out⟩, ⟨bP l.out⟩, ⟨bP c.out⟩, ⟨bW⟩⟩
     rw [if_neg an] at H
     have bN := dF an
     clear an
     by_cases aX : s.length < 5864062014805; rotate_left
     ·rw [if_neg aX] at H
      exact absurd H (by simp)
     rw [if_pos aX] at H
     have bR := mA aX
     clear aX
     obtain ⟨I, aY⟩ := nm ((s ++ [ab]) : List (List Int))
     rw [← aY.out] at H
     obtain ⟨ax, db, H⟩ := bA H
     by_cases aZ : u.length < 140737488355328; rotate_left
     ·rw [if_neg aZ] at H
      exact absurd H (by simp)
     rw [if_pos aZ] at H
     have bS := mA aZ
     clear aZ
     obtain ⟨ay, a0⟩ := nm ((u ++ [ax]) : List Bool)
     rw [← a0.out] at H
     have H' := mA H
     clear H
     have dJ := X.out
     have dK := Y.out
     have dL := B.out
     have dM := T.out
     have cA : wr.cell? ⟨q, 0, none⟩ = some (.int .i64 m) := bc a 0
     have cC : wr.cell? ⟨q, 1, none⟩ = some (.int .i64 A) := bc a 1
     have cD : wr.cell? ⟨q, 2, none⟩ = some (.int .i64 z) := bc a 2
     have cE : wr.cell? ⟨q, 3, none⟩ = some (.slice L r.length G) := bc a 3
     have cF := Zaa a.out 0
     have cG := Zaa a.out 1
     have cH := Zaa a.out 2
     have cI := Zaa a.out 3
     have dN := aa.out
     have dO := E.out
     have cJ : wr.cell? ⟨x, 0, none⟩ = some (.int .i64 m) := bc c 0
     have cK : wr.cell? ⟨x, 1, none⟩ = some (D) := bc c 1
     have cL : wr.cell? ⟨x, 2, none⟩ = some (y) := bc c 2
     have cM := Zaa c.out 0
     have cN := Zaa c.out 1
     have cO := Zaa c.out 2
     obtain ⟨bD, bE, b4⟩ := zH M.out
     subst b4
     try go_wp2_with (first | ((with_reducible refine Zch (b := .append) (xs := #[.tmp 41, .tmp 43]) rfl ?_); at_builtin; refine Kd.S_append (Kd.slice 2 (Kd.int .i64)) (w0 := w) w.heap.size rfl (.tmp 41) (.tmp 43) 25 22 (.slice none 0 0) 24 rfl Tryd.underlying25 info22 rfl (by decide) (by omega) D s ab [.slice bD ab.length bE] (fun _ => True) (fun k_ => some k_ = (.slice bD ab.length bE : Value).ownBlock) rfl rfl ?aP (fun k_ hk_ => ((zA (ok' := fun k_ => ((fun _ => True)) k_ ∧ some k_ ≠ (D : Value).ownBlock) (Kd.R_apart' (M.out) (Kd.S_typed j.out) (by decide)) (fun k_ hk => ⟨trivial, hk.2⟩))).1 k_ hk_.symm) ?aF ?aO ?aB ?aS ?aL ?_; (case aP => exact Kd.M_row (zA (Kd.R_tight rfl (zA (ok' := fun k_ => ((fun _ => True)) k_ ∧ some k_ ≠ (D : Value).ownBlock) (Kd.R_apart' (M.out) (Kd.S_typed j.out) (by decide)) (fun k_ hk => ⟨trivial, hk.2⟩))) (fun _ h_ => h_))); (case aB => exact (bW)); (case aF => exact (fun _ _ => trivial)); (case aO => exact (by (with_reducible repeat (first | apply yH | apply yI | apply yB)); exact yD j.out (fun k_ hk => ⟨trivial, fun e_ => hk e_⟩))); (case aS => exact (Zao (bW))); (case aL => have := bR.out; omega); intro d0 al ho hb hg hat; rw [← aY.out] at ho; replace d := mA (zW (rP d.out) (Kd.S_typed (sP j.out)) (by decide) hg); replace a := mA (Zay (g := q) (o := .cells #[.int .i64 m, .int .i64 A, .int .i64 z, .slice L r.length G] 34 (0, 0)) (bP a.out) hg (Kd.S_ne j.out a.out (by decide))); replace l := mA (Zay (g := J) (o := .cells #[.int .i64 0, .slice none 0 0, .slice none 0 0] 101 (0, 0)) (bP l.out) hg (Kd.S_ne j.out l.out (by decide))); replace c := mA (Zay (g := x) (o := .cells #[.int .i64 m, D, y] 101 (0, 0)) (bP c.out) hg (Kd.S_ne j.out c.out (by decide))); replace HB := mA (hb); have W := mA (ho); clear j M ho hb hg hat; obtain ⟨O, P, b5⟩ := xB W.out; subst b5; obtain ⟨cQ, cR, cS⟩ := cells3 c.out; obtain ⟨cT, cU, cV⟩ := frz3 c.out))
     have bF : Zab (Kd.R Kd.bool 4 (al.setCell ⟨x, 1, none⟩ (.slice O I.length P)) w.heap.size (fun _ => True) y u) := ⟨by (with_reducible repeat (first | apply zE | apply zD | apply zB)); exact zA (zJ (p := ⟨x, 1, none⟩) (yE d.out c.out (by decide)) (fun _ hk => hk.2) (.slice O I.length P)) (fun _ hk => trivial)⟩
     have bG : Zab (Kd.S (Kd.slice 2 (Kd.int .i64)) 22 (al.setCell ⟨x, 1, none⟩ (.slice O I.length P)) w.heap.size (fun _ => True) (.slice O I.length P) I) := ⟨by (with_reducible repeat (first | apply yH | apply yI | apply yB)); exact yD (zZ (p := ⟨x, 1, none⟩) (yN W.out c.out (by decide)) (fun _ hk => hk.2) (.slice O I.length P)) (fun _ hk => trivial)⟩
     have bH : Zab ((al.setCell ⟨x, 1, none⟩ (.slice O I.length P)).heap[q]? = some (.cells #[.int .i64 m, .int .i64 A, .int .i64 z, .slice L r.length G] 34 (0, 0))) := ⟨by (with_reducible repeat (first | refine Zai ?_ _ | refine Zah ?_ | refine Zag ?_ _)); refine Zbb ?_ B.out _; exact bP a.out⟩
     have bI : Zab ((al.setCell ⟨x, 1, none⟩ (.slice O I.length P)).heap[J]? = some (.cells #[.int .i64 0, .slice none 0 0, .slice none 0 0] 101 (0, 0))) := ⟨by (with_reducible repeat (first | refine Zai ?_ _ | refine Zah ?_ | refine Zag ?_ _)); refine Zbb ?_ E.out _; exact bP l.out⟩
     have bJ : Zab ((al.setCell ⟨x, 1, none⟩ (.slice O I.length P)).heap[x]? = some (.cells #[.int .i64 m, .slice O I.length P, y] 101 (0, 0))) := ⟨by (with_reducible repeat (first | refine Zai ?_ _ | refine Zah ?_ | refine Zag ?_ _)); refine Zbj (cs := #[.int .i64 m, D, y]) ?_ 1 _ rfl; exact bP c.out⟩
     have bK : Zab (Below w.heap.size w (al.setCell ⟨x, 1, none⟩ (.slice O I.length P))) := ⟨bW⟩
     (try clear d)
     (try clear W)
     (try clear a)
     (try clear l)
     (try clear c)
     (try clear HB)
     generalize (al.setCell ⟨x, 1, none⟩ (.slice O I.length P)) = dc at bF bG bH bI bJ bK ⊢
     have d := bF; have W := bG; have a := bH; have l := bI; have c := bJ; have HB := bK; clear bF bG bH bI bJ bK
     replace d := mA (zB d.out)
     replace W := mA (yB W.out)
     replace a := mA (Zah a.out)
     replace l := mA (Zah l.out)
     replace c := mA (Zah c.out)
     replace HB := mA (Zbe HB.out)
     refine start_ (n := 10) (S := fun w' => w'.cell? ⟨x, 0, none⟩ = some (.int .i64 m) ∧ w'.cell? ⟨x, 1, none⟩ = some (.slice O I.length P) ∧ w'.cell? ⟨x, 2, none⟩ = some (y) ∧ w'.cell? ⟨q, 0, none⟩ = some (.int .i64 m) ∧ w'.cell? ⟨q, 1, none⟩ = some (.int .i64 A) ∧ w'.cell? ⟨q, 2, none⟩ = some (.int .i64 z) ∧ w'.cell? ⟨q, 3, none⟩ = some (.slice L r.length G)) (ds := [9]) #[false, false, false, false, false, false, false, false, false, false] (by kernel_rfl) rfl rfl ⟨bc c 0, bc c 1, bc c 2, bc a 0, bc a 1, bc a 2, bc a 3⟩ (fun hHeld => ?_); refine Zc6 Zav.tab12 Zav.bits12 (fun HT_ HW_ => ?_)
     generalize dc.drew = w47 at d W a l c HB hHeld ⊢
     refine Za6 (i := 0) (N := some 46) (Zau HT_.out (by kernel_rfl)) ?_
     refine Za6 (i := 2) (N := some 48) (Zau HT_.out (by kernel_rfl)) ?_
     refine Za6 (i := 4) (N := some 50) (Zau HT_.out (by kernel_rfl)) ?_
     refine takeS (i := 1) (N := some 47) (Zbw HT_.out HW_.out (by kernel_rfl)) hHeld ?_
     refine takeS (i := 3) (N := some 49) (Zbw HT_.out HW_.out (by kernel_rfl)) hHeld ?_
     refine one_ (i := 5) (N := some 51) #[true, true, true, true, true, true, false, false, false, false] rfl rfl (Zcc HT_.out (by kernel_rfl)) (by decide) (fun K hK => ?_)
     refine goes_ Tryd.func39 (by kernel_rfl) rfl #[.int .i64 z, .int .i64 U] (by rfl) rfl rfl (by (try simp only [List.map_toArray, List.map_cons, List.map_nil]); first | done | rfl | (simp only [List.length_drop, List.length_take]; rfl)) ?_
     with_reducible refine (Zaq.calls z U ax _ db.out).mono ?_
     rintro e w' ⟨rfl, ⟨nd, rfl⟩⟩
     refine ⟨_, rfl, ?_⟩
     refine hK.out _ _ ⟨bc c 0, bc c 1, bc c 2, bc a 0, bc a 1, bc a 2, bc a 3⟩ (fun hHeld => ?_)
     clear hK K
     refine putS 51 ?_
     refine one_ (i := 6) (N := some 52) #[true, true, true, true, true, true, true, false, false, false] rfl rfl (Zcc HT_.out (by kernel_rfl)) (by decide) (fun K hK => ?_)
     refine value_ (w1 := ?_) (v := ?_) (by rfl) rfl ?_ ?_
     rotate_left 2
     ·go_simp
      constructor
      ·rfl
      ·rfl
     refine hK.out _ _ ⟨(Zbu (Zag c.out _) 0).trans rfl, (Zbu (Zag c.out _) 1).trans rfl, (Zbu (Zag c.out _) 2).trans rfl, (Zbu (Zag a.out _) 0).trans rfl, (Zbu (Zag a.out _) 1).trans rfl, (Zbu (Zag a.out _) 2).trans rfl, (Zbu (Zag a.out _) 3).trans rfl⟩ (fun hHeld => ?_)
     clear hK K
     refine putS 52 ?_
     refine one_ (i := 7) (N := some 53) #[true, true, true, true, true, true, true, true, false, false] rfl rfl (Zcc HT_.out (by kernel_rfl)) (by decide) (fun K hK => ?_)
     refine xJ Kd.bool (w0 := w) w.heap.size (by rfl) (.tmp 47) (.tmp 52) 59 4 (.bool false) 1 rfl Tryd.underlying59 info4 rfl (by decide) (by omega) y u ax [.bool ax] (fun _ => True) (fun _ => False) rfl rfl ?aP (fun _ hk => hk.elim) ?aF ?aO ?aB ?aS ?aL ?_
     (case aP => exact rfl)
     (case aB => exact (bW))
     (case aF => exact (fun _ _ => trivial))
     (case aO => exact (rP d.out))
     (case aS => exact (Zao (bW)))
     (case aL => have := bS.out; omega)
     intro d1 dd ho hb hg hat
     rw [← a0.out] at ho
     replace a := mA (Zay (g := q) (o := .cells #[.int .i64 m, .int .i64 A, .int .i64 z, .slice L r.length G] 34 (0, 0)) (bP a.out) hg (zM d.out a.out (by decide)))
     replace l := mA (Zay (g := J) (o := .cells #[.int .i64 0, .slice none 0 0, .slice none 0 0] 101 (0, 0)) (bP l.out) hg (zM d.out l.out (by decide)))
     replace c := mA (Zay (g := x) (o := .cells #[.int .i64 m, .slice O I.length P, y] 101 (0, 0)) (bP c.out) hg (zM d.out c.out (by decide)))
     replace W := mA (Kd.S_over' (sP W.out) (zV (rP d.out)) (by decide) hg)
     replace HB := mA (hb)
     have a1 := mA (ho)
     clear d ho hb hg hat
     obtain ⟨aI, aJ, bL⟩ := zH a1.out
     (first | subst bL | (injection bL with bX de bY; have df := bX.symm; have dg := bY.symm; clear bX de bY; subst df; subst dg))
     refine hK.out _ _ ⟨bc c 0, bc c 1, bc c 2, bc a 0, bc a 1, bc a 2, bc a 3⟩ (fun hHeld => ?_)
     clear hK K
     refine putS 53 ?_
     refine Za6 (i := 8) (N := some 54) (Zau HT_.out (by kernel_rfl)) ?_
     refine last_ (i := 9) (N := none) #[true, true, true, true, true, true, true, true, true, true] rfl rfl (Zcc HT_.out (by kernel_rfl)) (by decide) (fun K hK => ?_)
     have d2 : dd.cell? ⟨x, 2, none⟩ = some (y) := bc c 2
     have dP := Zaa c.out 2
     have cW := B.out
     have cX := E.out
     have cY := T.out
     have cZ := aa.out
     refine skip_ (w1 := ?_) (by rfl) rfl ?_ ?_
     rotate_left
     ·go_simp
      rfl
     refine hK.out _ _ ?_
     clear hK K
     refine done_ (done_of HT_.out (by kernel_rfl)) ?_
     try go_wp2
     go_roundg k2
     case measure => have := aN.out; have := aT.out; omega
     case rel => exact ⟨(wrap64 (ag + 1)), (I), (ay), (.slice O I.length P), (.slice aI ay.length aJ), (eW), H', ⟨by have := aN.out; have := aT.out; omega⟩, ⟨by (with_reducible repeat (first | apply yH | apply yI | apply yB)); exact yD (zZ (p := ⟨x, 2, none⟩) (yN W.out c.out (by decide)) (fun _ hk => hk.2) (.slice aI ay.length aJ)) (fun _ hk => trivial)⟩, ⟨by (with_reducible repeat (first | apply zE | apply zD | apply zB)); exact zA (zJ (p := ⟨x, 2, none⟩) (yE a1.out c.out (by decide)) (fun _ hk => hk.2) (.slice aI ay.length aJ)) (fun _ hk => trivial)⟩, ⟨by (with_reducible repeat (first | refine Zai ?_ _ | refine Zah ?_ | refine Zag ?_ _)); refine Zbb ?_ B.out _; exact bP a.out⟩, ⟨by (with_reducible repeat (first | refine Zai ?_ _ | refine Zah ?_ | refine Zag ?_ _)); refine Zbb ?_ E.out _; exact bP l.out⟩, ⟨by (with_reducible repeat (first | refine Zai ?_ _ | refine Zah ?_ | refine Zag ?_ _)); refine Zbj (cs := #[.int .i64 m, .slice O I.length P, y]) ?_ 2 _ rfl; exact bP c.out⟩, ⟨bW⟩⟩
end Go.Proofs.YtlmicipfikammaaDoor.P
end
