import Derived.Test.YtgindgodfcfgkaaDoorCFnExactIsClosed8
section M0
namespace Go.Proofs.YtgindgodfcfgkaaDoor.P
open Go.RowKit Go.Proofs.YtgindgodfcfgkaaDoor.Sh Go.Proofs.YtgindgodfcfgkaaDoorW.PrintWords Go.Proofs.YtgindgodfcfgkaaDoorW.PrintLast Go.Proofs.YtgindgodfcfgkaaDoorW.PrintMore
open Kd
attribute [local go_sem] Zcp Zcq Zc0 Zcy Zcf Zcg Zcr Zcs   -- for this text's walks alone
set_option linter.unusedVariables false
set_option linter.unusedSimpArgs false
mutual
def Zau.l0 : Nat → Int → Int → List Int → Int → Int → Int → List (List Int) → Option (List Int)
 | 0, _, _, _, _, _, _, _ => none
 | k + 1, x5, e, g, a, b, c, d => (Zbo.f a b c d).bind fun h => (if x5 < h then (Zau.l1 k x5 0 e g a b c d) else (some ([] : List Int)))
def Zau.l1 : Nat → Int → Int → Int → List Int → Int → Int → Int → List (List Int) → Option (List Int)
 | 0, _, _, _, _, _, _, _, _ => none
 | k + 1, x5, x6, b, c, a, d, e, g => if x6 < a then (Zau.l2 k x5 x6 (wrap64 (x6 + 1)) b c a d e g) else (Zau.l0 k (wrap64 (x5 + 1)) b c a d e g)
def Zau.l2 : Nat → Int → Int → Int → Int → List Int → Int → Int → Int → List (List Int) → Option (List Int)
 | 0, _, _, _, _, _, _, _, _, _ => none
 | k + 1, x5, x6, x7, e, g, a, b, c, d => if x7 < a then ((Zdn.f e g x6 x7).bind fun h => (if h = true then (Zau.l2 k x5 x6 (wrap64 (x7 + 1)) e g a b c d) else ((Zbn.f k a b c d x5 (([x6, x7] : List Int))).bind fun i => ((Zbn.f k a b c d x5 (([x7, x6] : List Int))).bind fun j => (if i = j then (Zau.l2 k x5 x6 (wrap64 (x7 + 1)) e g a b c d) else (some (([x5, x6, x7] : List Int)))))))) else (Zau.l1 k x5 (wrap64 (x6 + 1)) e g a b c d)
end
def Zau.f (k : Nat) (a : Int) (b : List Int) (c : Int) (d : Int) (e : Int) (g : List (List Int)) : Option (List Int) := Zau.l0 k 0 a b c d e g
def Zau.T10 : Bool × List (List Nat × List Nat) := (true, [([], []), ([], []), ([], []), ([0, 1, 2], [0, 1, 2]), ([3], [3]), ([4, 3], [4]), ([5], [5]), ([5], [5]), ([5], [5]), ([5], [5]), ([8, 9, 5], [5, 8, 9]), ([6, 7, 10, 5, 5], [5, 6, 7, 10]), ([5], [5]), ([5], [5]), ([5], [5]), ([5], [5]), ([14, 15, 5], [5, 14, 15]), ([12, 13, 16, 11, 5], [5, 12, 13, 16]), ([11, 17, 5], [5, 11, 17]), ([5, 18], [5, 18])])
def Zau.B10 : List Nat := [0, 0, 0, 7, 15, 31, 63, 63, 63, 63, 831, 2047, 63, 63, 63, 63, 49215, 131071, 262143, 524287]
theorem Zau.tab10 : rtab .any (opsOf Tryd.f38 10) = Zau.T10 := by kernel_rfl
theorem Zau.bits10 : Zck Zau.T10.2 Zau.B10 = true := by kernel_rfl
set_option maxHeartbeats 8000000 in
set_option maxRecDepth 100000 in
theorem Zau.calls (k : Nat) (P : Int) (W : Option Addr) (X : Nat) (O : List Int) (y : Int) (z : Int) (A : Int) (I : Option Addr) (J : Nat) (x : List (List Int)) (r : List Int) (w : World) (bg : Kd.C (Kd.int .i64) w W O.length O) (bh : O.length ≤ X) (bi : Kd.C (Kd.slice 2 (Kd.int .i64)) w I x.length x) (bj : x.length ≤ J) (h : Zau.f k P O y z A x = some r) :
  Calls Tryd.prog 38 #[.agg #[.int .i64 P, .slice W O.length X], .agg #[.int .i64 y, .int .i64 z, .int .i64 A, .slice I x.length J]] w fun e w' => ∃ b6 : Value, e = .returned (b6) ∧ Kd.R (Kd.int .i64) 2 w' w.heap.size (fun _ => True) b6 r ∧ Below w.heap.size w w' := by
 have dG := Tryd.underlying32
 have dH := Tryd.underlying34
 have aX := mA bg
 have aY := mA bh
 clear bg bh
 have ap := mA bi
 have aq := mA bj
 clear bi bj
 have HB := mA (Below.refl w.heap.size w)
 unfold Zau.f at h
 have H := h
 clear h
 have H' := mA H
 clear H
 go_enter Tryd.func38, Tryd.ntmps38
 go_wp2_with (first | ((with_reducible refine Zao (N := 2) rfl ?_); (try (refine gate_guard (by rfl) ?_; dsimp only)); refine boxS (N := 2) (cs := #[.int .i64 P, .slice W O.length X]) (t := 32) ?_; intro ab hg w3 hbox hb; have j := mA (hbox); have dl := geW (w := w) hg; have dm := geW (w := w) hg; replace HB := mA (Zac (bW) hb); clear hb hbox hg) | ((with_reducible refine Zao (N := 3) rfl ?_); (try (refine gate_guard (by rfl) ?_; dsimp only)); refine boxS (N := 3) (cs := #[.int .i64 y, .int .i64 z, .int .i64 A, .slice I x.length J]) (t := 34) ?_; intro q hg w4 hbox hb; have c := mA (hbox); have dn := geW (w := w) hg; have dp := geW (w := w) hg; replace HB := mA (Zac (bW) hb); have Y := mA (neB hg j); have aa := mA (neC hg j); replace j := mA (blkB j.out hb); clear hb hbox hg))
 go_loopg [5] k (fun kq v5 w' => ∃ (G : Int), v5 = .int .i64 G ∧ Zaa (Zau.l0 kq G P O y z A x = some r) ∧ Zaa (kq ≤ k) ∧ Zaa (w'.heap[ab]? = some (.cells #[.int .i64 P, (.slice W O.length X)] 32 (0, 0))) ∧ Zaa (w'.heap[q]? = some (.cells #[.int .i64 y, .int .i64 z, .int .i64 A, (.slice I x.length J)] 34 (0, 0))) ∧ Zaa (Below w.heap.size w w'))
 case atStart => exact ⟨(0), (eW), H', ⟨Nat.le_refl _⟩, ⟨bP j.out⟩, ⟨bP c.out⟩, ⟨bW⟩⟩
 case round =>
  clear H'
  obtain ⟨G, rfl, HA, aD, j, c, HB⟩ := hrel
  cases gk with
  | zero => exact absurd HA.out (by simp [Zau.l0])
  | succ k1 =>
   have H := HA.out
   clear HA
   simp only [Zau.l0] at H
   replace H := bE H
   obtain ⟨bb, b7, H⟩ := H
   have A5 := mA b7
   clear b7
   by_cases c6 : G < bb; rotate_left
   ·rw [if_neg c6] at H
    have bw := dF c6
    clear c6
    obtain rfl := oI H
    have dq := aa.out
    have dr := Y.out
    have cb : wr.cell? ⟨q, 0, none⟩ = some (.int .i64 y) := bc c 0
    have cc : wr.cell? ⟨q, 1, none⟩ = some (.int .i64 z) := bc c 1
    have cd : wr.cell? ⟨q, 2, none⟩ = some (.int .i64 A) := bc c 2
    have ce : wr.cell? ⟨q, 3, none⟩ = some (.slice I x.length J) := bc c 3
    have cf := Zab c.out 0
    have cg := Zab c.out 1
    have ch := Zab c.out 2
    have ci := Zab c.out 3
    go_wp2_with (first | ((with_reducible refine Zaw (f := 48) rfl ?_); refine Zbq (some 10) Tryd.func48 #[.agg #[.int .i64 y, .int .i64 z, .int .i64 A, .slice I x.length J]] ?_; (with_reducible refine (Zbo.calls y z A _ _ x bb _ ?side1 ?side2 A5.out).mono ?_); (case side1 => exact cP (zE ap.out HB.out)); (case side2 => exact aq.out); rintro e dM ⟨rfl, hb⟩; refine ⟨_, rfl, ?_⟩; replace j := mA (blkB j.out hb); replace c := mA (blkB c.out hb); replace HB := mA (Zac (bW) hb); (try clear hb); (try clear hb2); (try clear hk); (try clear hi)))
    go_ret
    exact ⟨_, eW, by first | exact yU _ _ _ _ _ | exact Kd.N_nil _ _ _ _ _ | exact Kd.V_nil _ _ _ _ _ | exact Kd.Q_nil _ _ _ _ _ | exact Kd.S_nil _ _ _ _ _, bW⟩
   rw [if_pos c6] at H
   have bw := dT c6
   clear c6
   have H' := mA H
   clear H
   have dI := aa.out
   have dJ := Y.out
   have bx : wr.cell? ⟨q, 0, none⟩ = some (.int .i64 y) := bc c 0
   have bz : wr.cell? ⟨q, 1, none⟩ = some (.int .i64 z) := bc c 1
   have bA : wr.cell? ⟨q, 2, none⟩ = some (.int .i64 A) := bc c 2
   have bB : wr.cell? ⟨q, 3, none⟩ = some (.slice I x.length J) := bc c 3
   have bC := Zab c.out 0
   have bD := Zab c.out 1
   have bF := Zab c.out 2
   have bG := Zab c.out 3
   go_wp2_with (first | ((with_reducible refine Zaw (f := 48) rfl ?_); refine Zbq (some 10) Tryd.func48 #[.agg #[.int .i64 y, .int .i64 z, .int .i64 A, .slice I x.length J]] ?_; (with_reducible refine (Zbo.calls y z A _ _ x bb _ ?side1 ?side2 A5.out).mono ?_); (case side1 => exact cP (zE ap.out HB.out)); (case side2 => exact aq.out); rintro e w9 ⟨rfl, hb⟩; refine ⟨_, rfl, ?_⟩; replace j := mA (blkB j.out hb); replace c := mA (blkB c.out hb); replace HB := mA (Zac (bW) hb); (try clear hb); (try clear hb2); (try clear hk); (try clear hi)))
   go_loopg [6] k1 (fun kq v6 w' => ∃ (s : Int), v6 = .int .i64 s ∧ Zaa (Zau.l1 kq G s P O y z A x = some r) ∧ Zaa (kq ≤ k1) ∧ Zaa (w'.heap[ab]? = some (.cells #[.int .i64 P, (.slice W O.length X)] 32 (0, 0))) ∧ Zaa (w'.heap[q]? = some (.cells #[.int .i64 y, .int .i64 z, .int .i64 A, (.slice I x.length J)] 34 (0, 0))) ∧ Zaa (Below w.heap.size w w'))
   case atStart => exact ⟨(0), (eW), H', ⟨Nat.le_refl _⟩, ⟨bP j.out⟩, ⟨bP c.out⟩, ⟨bW⟩⟩
   case round =>
    clear H' bw bx bz bA bB bC bD bF bG
    obtain ⟨s, rfl, HA, aE, j, c, HB⟩ := hrel
    cases gk with
    | zero => exact absurd HA.out (by simp [Zau.l1])
    | succ k2 =>
     have H := HA.out
     clear HA
     simp only [Zau.l1] at H
     by_cases c10 : s < y; rotate_left
     ·rw [if_neg c10] at H
      have bk := dF c10
      clear c10
      have H' := mA H
      clear H
      have dt := aa.out
      have du := Y.out
      have cj : wr.cell? ⟨q, 0, none⟩ = some (.int .i64 y) := bc c 0
      have ck : wr.cell? ⟨q, 1, none⟩ = some (.int .i64 z) := bc c 1
      have cm : wr.cell? ⟨q, 2, none⟩ = some (.int .i64 A) := bc c 2
      have cn : wr.cell? ⟨q, 3, none⟩ = some (.slice I x.length J) := bc c 3
      have co := Zab c.out 0
      have cp := Zab c.out 1
      have cq := Zab c.out 2
      have cr := Zab c.out 3
      go_wp2
      go_roundg k2
      case measure => have := aD.out; have := aE.out; omega
      case rel => exact ⟨(wrap64 (G + 1)), (eW), H', ⟨by have := aD.out; have := aE.out; omega⟩, ⟨bP j.out⟩, ⟨bP c.out⟩, ⟨bW⟩⟩
     rw [if_pos c10] at H
     have bk := dT c10
     clear c10
     have H' := mA H
     clear H
     have dv := aa.out
     have dw := Y.out
     have bn : wr.cell? ⟨q, 0, none⟩ = some (.int .i64 y) := bc c 0
     have bo : wr.cell? ⟨q, 1, none⟩ = some (.int .i64 z) := bc c 1
     have bp : wr.cell? ⟨q, 2, none⟩ = some (.int .i64 A) := bc c 2
     have bq : wr.cell? ⟨q, 3, none⟩ = some (.slice I x.length J) := bc c 3
     have br := Zab c.out 0
     have bs := Zab c.out 1
     have bu := Zab c.out 2
     have bv := Zab c.out 3
     go_wp2
     go_loopg [7] k2 (fun kq v7 w' => ∃ (u : Int), v7 = .int .i64 u ∧ Zaa (Zau.l2 kq G s u P O y z A x = some r) ∧ Zaa (kq ≤ k2) ∧ Zaa (w'.heap[ab]? = some (.cells #[.int .i64 P, (.slice W O.length X)] 32 (0, 0))) ∧ Zaa (w'.heap[q]? = some (.cells #[.int .i64 y, .int .i64 z, .int .i64 A, (.slice I x.length J)] 34 (0, 0))) ∧ Zaa (Below w.heap.size w w'))
     case atStart => exact ⟨(wrap64 (s + 1)), (eW), H', ⟨Nat.le_refl _⟩, ⟨bP j.out⟩, ⟨bP c.out⟩, ⟨bW⟩⟩
     case round =>
      clear H' bk bn bo bp bq br bs bu bv
      obtain ⟨u, rfl, HA, aV, j, c, HB⟩ := hrel
      cases gk with
      | zero => exact absurd HA.out (by simp [Zau.l2])
      | succ k3 =>
       have H := HA.out
       clear HA
       simp only [Zau.l2] at H
       by_cases aW : u < y; rotate_left
       ·rw [if_neg aW] at H
        have b2 := dF aW
        clear aW
        have H' := mA H
        clear H
        have dx := aa.out
        have dy := Y.out
        have ct : wr.cell? ⟨q, 0, none⟩ = some (.int .i64 y) := bc c 0
        have cu : wr.cell? ⟨q, 1, none⟩ = some (.int .i64 z) := bc c 1
        have cv : wr.cell? ⟨q, 2, none⟩ = some (.int .i64 A) := bc c 2
        have cw : wr.cell? ⟨q, 3, none⟩ = some (.slice I x.length J) := bc c 3
        have cx := Zab c.out 0
        have cy := Zab c.out 1
        have cz := Zab c.out 2
        have cA := Zab c.out 3
        go_wp2
        go_roundg k3
        case measure => have := aD.out; have := aE.out; have := aV.out; omega
        case rel => exact ⟨(wrap64 (s + 1)), (eW), H', ⟨by have := aD.out; have := aE.out; have := aV.out; omega⟩, ⟨bP j.out⟩, ⟨bP c.out⟩, ⟨bW⟩⟩
       rw [if_pos aW] at H
       have b2 := dT aW
       clear aW
       replace H := bE H
       obtain ⟨ca, bH, H⟩ := H
       have bI := mA bH
       clear bH
       by_cases bl : ca = true
       ·subst bl
        rw [if_pos rfl] at H
        have H' := mA H
        clear H
        have dz := aa.out
        have dA := Y.out
        have cB : wr.cell? ⟨q, 0, none⟩ = some (.int .i64 y) := bc c 0
        have cC : wr.cell? ⟨q, 1, none⟩ = some (.int .i64 z) := bc c 1
        have cD : wr.cell? ⟨q, 2, none⟩ = some (.int .i64 A) := bc c 2
        have cE : wr.cell? ⟨q, 3, none⟩ = some (.slice I x.length J) := bc c 3
        have cF := Zab c.out 0
        have cG := Zab c.out 1
        have cH := Zab c.out 2
        have cI := Zab c.out 3
        try go_wp2
        replace j := mA (Zad j.out)
        replace c := mA (Zad c.out)
        replace HB := mA (Zax HB.out)
        refine Zcd (n := 20) (S := fun w' => w'.cell? ⟨ab, 0, none⟩ = some (.int .i64 P) ∧ w'.cell? ⟨ab, 1, none⟩ = some (.slice W O.length X)) (ds := []) #[false, false, false, false, false, false, false, false, false, false, false, false, false, false, false, false, false, false, false, false] (by kernel_rfl) rfl rfl ⟨bc j 0, bc j 1⟩ (fun hHeld => ?_); refine Zb8 Zau.tab10 Zau.bits10 (fun HT_ HW_ => ?_)
        generalize wr.drew = w18 at j c HB hHeld ⊢
        refine Zaq (i := 1) (N := some 29) (Zam HT_.out (by kernel_rfl)) ?_
        refine Zaq (i := 2) (N := some 30) (Zam HT_.out (by kernel_rfl)) ?_
        refine Za7 (i := 0) (N := some 28) (Za1 HT_.out HW_.out (by kernel_rfl)) hHeld ?_
        refine one_ (i := 3) (N := some 31) #[true, true, true, true, false, false, false, false, false, false, false, false, false, false, false, false, false, false, false, false] rfl rfl (Zbk HT_.out (by kernel_rfl)) (by decide) (fun K hK => ?_)
        refine Zb0 Tryd.func28 (by kernel_rfl) rfl #[.agg #[.int .i64 P, .slice W O.length X], .int .i64 s, .int .i64 u] (by rfl) rfl rfl (by (try simp only [List.map_toArray, List.map_cons, List.map_nil]); first | done | rfl | (simp only [List.length_drop, List.length_take]; rfl)) ?_
        with_reducible refine (Zdn.calls P _ _ O s u true _ ?side1 ?side2 bI.out).mono ?_
        (case side1 => exact cP (zE aX.out HB.out))
        (case side2 => exact aY.out)
        rintro e dN ⟨rfl, hb⟩
        refine ⟨_, rfl, ?_⟩
        replace j := mA (blkB j.out hb)
        replace c := mA (blkB c.out hb)
        replace HB := mA (Zac (bW) hb)
        (try clear hb)
        (try clear hb2)
        (try clear hk)
        (try clear hi)
        refine hK.out _ _ ⟨bc j 0, bc j 1⟩ (fun hHeld => ?_)
        clear hK K
        refine putS 31 ?_
        refine Zaq (i := 4) (N := some 32) (Zam HT_.out (by kernel_rfl)) ?_
        refine Zaq (i := 5) (N := some 33) (Zam HT_.out (by kernel_rfl)) ?_
        refine Zcc (i := 6) (N := some 34) (Zam HT_.out (by kernel_rfl)) ?_
        refine Zcc (i := 7) (N := some 35) (Zam HT_.out (by kernel_rfl)) ?_
        refine Zcc (i := 8) (N := some 36) (Zam HT_.out (by kernel_rfl)) ?_
        refine Zcc (i := 9) (N := some 37) (Zam HT_.out (by kernel_rfl)) ?_
        refine Zcc (i := 10) (N := some 38) (Zam HT_.out (by kernel_rfl)) ?_
        refine Zcc (i := 11) (N := some 39) (Zam HT_.out (by kernel_rfl)) ?_
        refine Zcc (i := 12) (N := some 40) (Zam HT_.out (by kernel_rfl)) ?_
        refine Zcc (i := 13) (N := some 41) (Zam HT_.out (by kernel_rfl)) ?_
        refine Zcc (i := 14) (N := some 42) (Zam HT_.out (by kernel_rfl)) ?_
        refine Zcc (i := 15) (N := some 43) (Zam HT_.out (by kernel_rfl)) ?_
        refine Zcc (i := 16) (N := some 44) (Zam HT_.out (by kernel_rfl)) ?_
        refine Zcc (i := 17) (N := some 45) (Zam HT_.out (by kernel_rfl)) ?_
        refine Zcc (i := 18) (N := some 46) (Zam HT_.out (by kernel_rfl)) ?_
        refine Zaq (i := 19) (N := some 47) (Zam HT_.out (by kernel_rfl)) ?_
        refine Zcx (Zcv HT_.out (by kernel_rfl)) ?_
        try go_wp2
        go_roundg k3
        case measure => have := aD.out; have := aE.out; have := aV.out; omega
        case rel => exact ⟨(wrap64 (u + 1)), (eW), H', ⟨by have := aD.out; have := aE.out; have := aV.out; omega⟩, ⟨bP j.out⟩, ⟨bP c.out⟩, ⟨bW⟩⟩
       replace bl := Bool.eq_false_iff.mpr bl
       subst bl
       rw [iF] at H
       obtain ⟨ak, aZ⟩ : ∃ y_ : List Int, y_ = (([s, u] : List Int)) := ⟨_, rfl⟩
       replace H : ((Zbn.f k3 y z A x G ak).bind fun T => ((Zbn.f k3 y z A x G (([u, s] : List Int))).bind fun U => (if T = U then (Zau.l2 k3 G s (wrap64 (u + 1)) P O y z A x) else (some (([G, s, u] : List Int)))))) = some r := by rw [aZ]; with_reducible exact H
       have aF := mA aZ
       clear aZ
       replace H := bE H
       obtain ⟨T, bJ, H⟩ := H
       have b8 := mA bJ
       clear bJ
       obtain ⟨aj, a0⟩ : ∃ y_ : List Int, y_ = (([u, s] : List Int)) := ⟨_, rfl⟩
       rw [← a0] at H
       have aG := mA a0
       clear a0
       replace H := bE H
       obtain ⟨U, bK, H⟩ := H
       have b9 := mA bK
       clear bK
       by_cases aH : T = U
       ·rw [if_pos aH] at H
        have b3 : (T == U) = true := beq_iff_eq.mpr aH
        have b4 : (T != U) = false := bne_eq_false_iff_eq.mpr aH
        clear aH
        have H' := mA H
        clear H
        have dB := aa.out
        have dC := Y.out
        have cJ : wr.cell? ⟨q, 0, none⟩ = some (.int .i64 y) := bc c 0
        have cK : wr.cell? ⟨q, 1, none⟩ = some (.int .i64 z) := bc c 1
        have cL : wr.cell? ⟨q, 2, none⟩ = some (.int .i64 A) := bc c 2
        have cM : wr.cell? ⟨q, 3, none⟩ = some (.slice I x.length J) := bc c 3
        have cN := Zab c.out 0
        have cO := Zab c.out 1
        have cQ := Zab c.out 2
        have cR := Zab c.out 3
        try go_wp2
        replace j := mA (Zad j.out)
        replace c := mA (Zad c.out)
        replace HB := mA (Zax HB.out)
        refine Zcd (n := 20) (S := fun w' => True) (ds := []) #[false, false, false, false, false, false, false, false, false, false, false, false, false, false, false, false, false, false, false, false] (by kernel_rfl) rfl rfl trivial (fun hHeld => ?_); refine Zb8 Zau.tab10 Zau.bits10 (fun HT_ HW_ => ?_)
        generalize wr.drew = w25 at j c HB hHeld ⊢
        refine Zaq (i := 1) (N := some 29) (Zam HT_.out (by kernel_rfl)) ?_
        refine Zaq (i := 2) (N := some 30) (Zam HT_.out (by kernel_rfl)) ?_
        refine inv_at [0, 3, 4, 5, 6, 7, 8, 9, 10, 11, 12, 13, 14, 15, 16, 17, 18, 19] (fun bL b a w' => ∃ (p : Value) (o : Value), a = Zc6 bL b [(0, 28, .agg #[.int .i64 P, .slice W O.length X]), (3, 31, .bool false), (4, 32, .bool (!false)), (5, 33, .bool (!false)), (6, 34, .agg #[.int .i64 y, .int .i64 z, .int .i64 A, .slice I x.length J]), (7, 35, .int .i64 G), (8, 36, .int .i64 s), (9, 37, .int .i64 u), (10, 38, p), (11, 39, .int .i64 T), (12, 40, .agg #[.int .i64 y, .int .i64 z, .int .i64 A, .slice I x.length J]), (13, 41, .int .i64 G), (14, 42, .int .i64 u), (15, 43, .int .i64 s), (16, 44, o), (17, 45, .int .i64 U), (18, 46, .bool (T != U)), (19, 47, .bool (T != U))] ∧ (w'.heap[ab]? = some (.cells #[.int .i64 P, .slice W O.length X] 32 (0, 0))) ∧ (w'.heap[q]? = some (.cells #[.int .i64 y, .int .i64 z, .int .i64 A, .slice I x.length J] 34 (0, 0))) ∧ (Below w.heap.size w w') ∧ (b 10 = true → Kd.R (Kd.int .i64) 2 w' w.heap.size (fun _ => True) p ak) ∧ (b 16 = true → Kd.R (Kd.int .i64) 2 w' w.heap.size (fun _ => True) o aj)) HT_.out HW_.out (by kernel_rfl) (by kernel_rfl) ?_ ?_ ?_
        ·exact ⟨.bool false, .bool false, by simp only [Zc6, Bool.false_eq_true, if_false], j.out, c.out, HB.out, fun h_ => absurd h_ (by decide), fun h_ => absurd h_ (by decide)⟩
        ·skip
         clear j c HB
         refine Zbf ?_ ?_
         ·rintro b a w' ⟨p, o, ha, d, g, Q_HB, m, l⟩ hb_ hon hoff
          refine ⟨_, rfl, fun K hK => ?_⟩
          have e2 : a.tmps[2]? = some (.pointer (some ⟨ab, 0, none⟩)) := by rw [ha]; exact (Zbw rfl).trans rfl
          replace ha := mA ha
          have j := mA d
          have c := mA g
          have HB := mA Q_HB
          have aI : w'.cell? ⟨ab, 0, none⟩ = some (.int .i64 P) := bc j 0
          have aJ : w'.cell? ⟨ab, 1, none⟩ = some (.slice W O.length X) := bc j 1
          refine Zcn (w1 := w') (v := .agg #[.int .i64 P, .slice W O.length X]) (by rfl) rfl ?_ ?_
          ·go_simp
           (try simp only [Zby])
           try rfl
          refine hK.out _ _ ⟨p, o, (by rw [ha.out]; exact Zbe 0 hb_ rfl rfl rfl), d, g, Q_HB, fun B => absurd ((hoff 10 (by kernel_rfl)).symm.trans B) (by decide), fun B => absurd ((hoff 16 (by kernel_rfl)).symm.trans B) (by decide)⟩
         refine Zbf ?_ ?_
         ·rintro b a w' ⟨p, o, ha, d, g, Q_HB, m, l⟩ hb_ hon hoff
          refine ⟨_, rfl, fun K hK => ?_⟩
          have a2 : a.tmps[28]? = some (.agg #[.int .i64 P, .slice W O.length X]) := by rw [ha]; exact Zay (e := (0, 28, .agg #[.int .i64 P, .slice W O.length X])) 0 rfl rfl (hon 0 (by kernel_rfl)) rfl
          have a3 : a.tmps[29]? = some (.int .i64 s) := by rw [ha]; exact (Zbw rfl).trans rfl
          have a4 : a.tmps[30]? = some (.int .i64 u) := by rw [ha]; exact (Zbw rfl).trans rfl
          replace ha := mA ha
          have j := mA d
          have c := mA g
          have HB := mA Q_HB
          refine Zb0 Tryd.func28 (by kernel_rfl) rfl #[.agg #[.int .i64 P, .slice W O.length X], .int .i64 s, .int .i64 u] (by rfl) rfl rfl (by first | (simp only [List.map_toArray, List.map_cons, List.map_nil, Act.eval, Array.getD_eq_getD_getElem?, Option.getD_some, a2, a3, a4]; done) | (simp only [List.map_toArray, List.map_cons, List.map_nil, Act.eval, Array.getD_eq_getD_getElem?, Option.getD_some, a2, a3, a4]; rfl)) ?_
          with_reducible refine (Zdn.calls P _ _ O s u false _ ?side1 ?side2 bI.out).mono ?_
          (case side1 => exact cP (zE aX.out HB.out))
          (case side2 => exact aY.out)
          rintro e dO ⟨rfl, hb⟩
          refine ⟨_, rfl, ?_⟩
          replace j := mA (blkB j.out hb)
          replace c := mA (blkB c.out hb)
          replace HB := mA (Zac (bW) hb)
          (try clear hb)
          (try clear hb2)
          (try clear hk)
          (try clear hi)
          refine hK.out _ _ ⟨p, o, (by rw [ha.out]; exact Zbe 1 hb_ rfl rfl rfl), (bP j.out), (bP c.out), (bW), fun B => absurd ((hoff 10 (by kernel_rfl)).symm.trans B) (by decide), fun B => absurd ((hoff 16 (by kernel_rfl)).symm.trans B) (by decide)⟩
         refine Zbf ?_ ?_
         ·rintro b a w' ⟨p, o, ha, d, g, Q_HB, m, l⟩ hb_ hon hoff
          refine ⟨_, rfl, fun K hK => ?_⟩
          have c0 : a.tmps[31]? = some (.bool false) := by rw [ha]; exact Zay (e := (3, 31, .bool false)) 1 rfl rfl (hon 3 (by kernel_rfl)) rfl
          replace ha := mA ha
          have j := mA d
          have c := mA g
          have HB := mA Q_HB
          refine Zcn (w1 := w') (v := .bool (!false)) (by rfl) rfl ?_ ?_
          ·go_simp
           (try simp only [Zby])
           try rfl
          refine hK.out _ _ ⟨p, o, (by rw [ha.out]; exact Zbe 2 hb_ rfl rfl rfl), d, g, Q_HB, fun B => absurd ((hoff 10 (by kernel_rfl)).symm.trans B) (by decide), fun B => absurd ((hoff 16 (by kernel_rfl)).symm.trans B) (by decide)⟩
         refine Zbf ?_ ?_
         ·rintro b a w' ⟨p, o, ha, d, g, Q_HB, m, l⟩ hb_ hon hoff
          refine ⟨_, rfl, fun K hK => ?_⟩
          have c1 : a.tmps[32]? = some (.bool (!false)) := by rw [ha]; exact Zay (e := (4, 32, .bool (!false))) 2 rfl rfl (hon 4 (by kernel_rfl)) rfl
          replace ha := mA ha
          have j := mA d
          have c := mA g
          have HB := mA Q_HB
          refine Zcn (w1 := w') (v := .bool (!false)) (by rfl) rfl ?_ ?_
          ·go_simp
           (try simp only [Zby])
           try rfl
          refine hK.out _ _ ⟨p, o, (by rw [ha.out]; exact Zbe 3 hb_ rfl rfl rfl), d, g, Q_HB, fun B => absurd ((hoff 10 (by kernel_rfl)).symm.trans B) (by decide), fun B => absurd ((hoff 16 (by kernel_rfl)).symm.trans B) (by decide)⟩
         refine Zbf ?_ ?_
         ·rintro b a w' ⟨p, o, ha, d, g, Q_HB, m, l⟩ hb_ hon hoff
          refine ⟨_, rfl, fun K hK => ?_⟩
          have e3 : a.tmps[3]? = some (.pointer (some ⟨q, 0, none⟩)) := by rw [ha]; exact (Zbw rfl).trans rfl
          have D : a.tmps[33]? = some (.bool (!false)) := by rw [ha]; exact Zay (e := (5, 33, .bool (!false))) 3 rfl rfl (hon 5 (by kernel_rfl)) rfl
          replace ha := mA ha
          have j := mA d
          have c := mA g
          have HB := mA Q_HB
          have aI : w'.cell? ⟨q, 0, none⟩ = some (.int .i64 y) := bc c 0
          have aJ : w'.cell? ⟨q, 1, none⟩ = some (.int .i64 z) := bc c 1
          have bd : w'.cell? ⟨q, 2, none⟩ = some (.int .i64 A) := bc c 2
          have bf : w'.cell? ⟨q, 3, none⟩ = some (.slice I x.length J) := bc c 3
          refine Zcn (w1 := w') (v := .agg #[.int .i64 y, .int .i64 z, .int .i64 A, .slice I x.length J]) (Zb4 rfl rfl rfl (D.trans (by first | rfl | (simp [*]; done)))) rfl ?_ ?_
          ·go_simp
           (try simp only [Zby])
           try rfl
          refine hK.out _ _ ⟨p, o, (by rw [ha.out]; exact Zbe 4 hb_ rfl rfl rfl), d, g, Q_HB, m, l⟩
         refine Zbf ?_ ?_
         ·rintro b a w' ⟨p, o, ha, d, g, Q_HB, m, l⟩ hb_ hon hoff
          refine ⟨_, rfl, fun K hK => ?_⟩
          have e5 : a.tmps[5]? = some (.int .i64 G) := by rw [ha]; exact (Zbw rfl).trans rfl
          have D : a.tmps[33]? = some (.bool (!false)) := by rw [ha]; exact Zay (e := (5, 33, .bool (!false))) 3 rfl rfl (hon 5 (by kernel_rfl)) rfl
          replace ha := mA ha
          have j := mA d
          have c := mA g
          have HB := mA Q_HB
          refine Zcn (w1 := w') (v := .int .i64 G) (Zb4 rfl rfl rfl (D.trans (by first | rfl | (simp [*]; done)))) rfl ?_ ?_
          ·go_simp
           (try simp only [Zby])
           try rfl
          refine hK.out _ _ ⟨p, o, (by rw [ha.out]; exact Zbe 5 hb_ rfl rfl rfl), d, g, Q_HB, m, l⟩
         refine Zbf ?_ ?_
         ·rintro b a w' ⟨p, o, ha, d, g, Q_HB, m, l⟩ hb_ hon hoff
          refine ⟨_, rfl, fun K hK => ?_⟩
          have e6 : a.tmps[6]? = some (.int .i64 s) := by rw [ha]; exact (Zbw rfl).trans rfl
          have D : a.tmps[33]? = some (.bool (!false)) := by rw [ha]; exact Zay (e := (5, 33, .bool (!false))) 3 rfl rfl (hon 5 (by kernel_rfl)) rfl
          replace ha := mA ha
          have j := mA d
          have c := mA g
          have HB := mA Q_HB
          refine Zcn (w1 := w') (v := .int .i64 s) (Zb4 rfl rfl rfl (D.trans (by first | rfl | (simp [*]; done)))) rfl ?_ ?_
          ·go_simp
           (try simp only [Zby])
           try rfl
          refine hK.out _ _ ⟨p, o, (by rw [ha.out]; exact Zbe 6 hb_ rfl rfl rfl), d, g, Q_HB, fun B => absurd ((hoff 10 (by kernel_rfl)).symm.trans B) (by decide), l⟩
         refine Zbf ?_ ?_
         ·rintro b a w' ⟨p, o, ha, d, g, Q_HB, m, l⟩ hb_ hon hoff
          refine ⟨_, rfl, fun K hK => ?_⟩
          have e7 : a.tmps[7]? = some (.int .i64 u) := by rw [ha]; exact (Zbw rfl).trans rfl
          have D : a.tmps[33]? = some (.bool (!false)) := by rw [ha]; exact Zay (e := (5, 33, .bool (!false))) 3 rfl rfl (hon 5 (by kernel_rfl)) rfl
          replace ha := mA ha
          have j := mA d
          have c := mA g
          have HB := mA Q_HB
          refine Zcn (w1 := w') (v := .int .i64 u) (Zb4 rfl rfl rfl (D.trans (by first | rfl | (simp [*]; done)))) rfl ?_ ?_
          ·go_simp
           (try simp only [Zby])
           try rfl
          refine hK.out _ _ ⟨p, o, (by rw [ha.out]; exact Zbe 7 hb_ rfl rfl rfl), d, g, Q_HB, fun B => absurd ((hoff 10 (by kernel_rfl)).symm.trans B) (by decide), l⟩
         refine Zbf ?_ ?_
         ·rintro b a w' ⟨p, o, ha, d, g, Q_HB, m, l⟩ hb_ hon hoff
          refine ⟨_, rfl, fun K hK => ?_⟩
          have da : a.tmps[36]? = some (.int .i64 s) := by rw [ha]; exact Zay (e := (8, 36, .int .i64 s)) 6 rfl rfl (hon 8 (by kernel_rfl)) rfl
          have db : a.tmps[37]? = some (.int .i64 u) := by rw [ha]; exact Zay (e := (9, 37, .int .i64 u)) 7 rfl rfl (hon 9 (by kernel_rfl)) rfl
          have D : a.tmps[33]? = some (.bool (!false)) := by rw [ha]; exact Zay (e := (5, 33, .bool (!false))) 3 rfl rfl (hon 5 (by kernel_rfl)) rfl
          replace ha := mA ha
          have j := mA d
          have c := mA g
          have HB := mA Q_HB
          refine yZ (Kd.int .i64) _ 2 ?hg (N := 38) ?hd (xs := ([s, u] : List Int)) (inner := [.int .i64 s, .int .i64 u]) (ok := fun _ => True) (okp := fun _ => True) ?hr ?hp (fun _ hk => hk) trivial (Below.refl _ _) (Nat.le_refl _) (by simp) ?_; (case hd => rfl); (case hg => first | rfl | exact Zb4 rfl rfl rfl (D.trans (by first | rfl | (simp [*]; done)))); (case hr => first | (go_simp; done) | (go_simp; rfl)); (case hp => exact (Reps.one (show Kd.M (Kd.int .i64) _ _ _ s [.int .i64 s] from rfl) (Reps.one (show Kd.M (Kd.int .i64) _ _ _ u [.int .i64 u] from rfl) (Reps.none _ _))))
          intro p bM ac hb hg_ hnew_
          clear hg_ hnew_
          (first | rw [← aF.out] at ac | (simp only [Int.reduceToNat] at ac; rw [← aF.out] at ac))
          have af := mA (zN ac (Zah (bW)))
          have ag := mA (blkB j.out hb)
          have ah := mA (blkB c.out hb)
          have ai := mA (Zac (bW) hb)
          have ae := fun (B : b 16 = true) => (show Kd.R (Kd.int .i64) 2 bM w.heap.size (fun _ => True) o aj from by first | exact (zT (rP (l B)) (zK ac) hb) | exact zA (zT (rP (l B)) (zK ac) hb) (fun _ h_ => by first | trivial | exact h_ | exact h_.1))
          clear j c HB; have E := af; have j := ag; have c := ah; have HB := ai; clear af ag ah ai hb ac
          refine hK.out _ _ ⟨p, o, (by rw [ha.out]; exact Zbe 8 hb_ rfl rfl rfl), (bP j.out), (bP c.out), (bW), fun _ => (rP E.out), ae⟩
         refine Zbf ?_ ?_
         ·rintro b a w' ⟨p, o, ha, d, g, Q_HB, m, l⟩ hb_ hon hoff
          refine ⟨_, rfl, fun K hK => ?_⟩
          have a5 : a.tmps[34]? = some (.agg #[.int .i64 y, .int .i64 z, .int .i64 A, .slice I x.length J]) := by rw [ha]; exact Zay (e := (6, 34, .agg #[.int .i64 y, .int .i64 z, .int .i64 A, .slice I x.length J])) 4 rfl rfl (hon 6 (by kernel_rfl)) rfl
          have a6 : a.tmps[35]? = some (.int .i64 G) := by rw [ha]; exact Zay (e := (7, 35, .int .i64 G)) 5 rfl rfl (hon 7 (by kernel_rfl)) rfl
          have a7 : a.tmps[38]? = some (p) := by rw [ha]; exact Zay (e := (10, 38, p)) 8 rfl rfl (hon 10 (by kernel_rfl)) rfl
          have D : a.tmps[33]? = some (.bool (!false)) := by rw [ha]; exact Zay (e := (5, 33, .bool (!false))) 3 rfl rfl (hon 5 (by kernel_rfl)) rfl
          replace ha := mA ha
          have j := mA d
          have c := mA g
          have HB := mA Q_HB
          have E := mA (m (hon 10 (by kernel_rfl)))
          obtain ⟨bN, bO, bQ⟩ := zJ E.out
          (first | subst bQ | (injection bQ with an aK ao; have aL := an.symm; have aM := ao.symm; clear an aK ao; subst aL; subst aM))
          refine Zb0 Tryd.func58 (by kernel_rfl) rfl #[.agg #[.int .i64 y, .int .i64 z, .int .i64 A, .slice I x.length J], .int .i64 G, .slice bN ak.length bO] (by first | rfl | exact Zb4 rfl rfl rfl (D.trans (by first | rfl | (simp [*]; done)))) rfl rfl (by first | (simp only [List.map_toArray, List.map_cons, List.map_nil, Act.eval, Array.getD_eq_getD_getElem?, Option.getD_some, a5, a6, a7, D]; done) | (simp only [List.map_toArray, List.map_cons, List.map_nil, Act.eval, Array.getD_eq_getD_getElem?, Option.getD_some, a5, a6, a7, D]; rfl)) ?_
          with_reducible refine (Zbn.calls k3 y z A _ _ x G _ _ ak T _ ?side1 ?side2 ?side3 ?side4 b8.out).mono ?_
          (case side1 => exact cP (zE ap.out HB.out))
          (case side2 => exact aq.out)
          (case side3 => exact cP ((zF E.out).2.2))
          (case side4 => exact (zF E.out).2.1)
          rintro e dc ⟨rfl, hb⟩
          refine ⟨_, rfl, ?_⟩
          have af := mA (zI (rP E.out) hb)
          have ag := mA (blkB j.out hb)
          have ah := mA (blkB c.out hb)
          have ai := mA (Zac (bW) hb)
          have ae := fun (B : b 16 = true) => (show Kd.R (Kd.int .i64) 2 dc w.heap.size (fun _ => True) o aj from by first | exact (zI (rP (l B)) hb) | exact zA (zI (rP (l B)) hb) (fun _ h_ => by first | trivial | exact h_ | exact h_.1))
          clear E j c HB; have E := af; have j := ag; have c := ah; have HB := ai; clear af ag ah ai
          (try clear hb)
          (try clear hb2)
          (try clear hk)
          (try clear hi)
          refine hK.out _ _ ⟨.slice bN ak.length bO, o, (by rw [ha.out]; exact Zbe 9 hb_ rfl rfl rfl), (bP j.out), (bP c.out), (bW), fun _ => (rP E.out), ae⟩
         refine Zbf ?_ ?_
         ·rintro b a w' ⟨p, o, ha, d, g, Q_HB, m, l⟩ hb_ hon hoff
          refine ⟨_, rfl, fun K hK => ?_⟩
          have e3 : a.tmps[3]? = some (.pointer (some ⟨q, 0, none⟩)) := by rw [ha]; exact (Zbw rfl).trans rfl
          have D : a.tmps[33]? = some (.bool (!false)) := by rw [ha]; exact Zay (e := (5, 33, .bool (!false))) 3 rfl rfl (hon 5 (by kernel_rfl)) rfl
          replace ha := mA ha
          have j := mA d
          have c := mA g
          have HB := mA Q_HB
          have aI : w'.cell? ⟨q, 0, none⟩ = some (.int .i64 y) := bc c 0
          have aJ : w'.cell? ⟨q, 1, none⟩ = some (.int .i64 z) := bc c 1
          have bd : w'.cell? ⟨q, 2, none⟩ = some (.int .i64 A) := bc c 2
          have bf : w'.cell? ⟨q, 3, none⟩ = some (.slice I x.length J) := bc c 3
          refine Zcn (w1 := w') (v := .agg #[.int .i64 y, .int .i64 z, .int .i64 A, .slice I x.length J]) (Zb4 rfl rfl rfl (D.trans (by first | rfl | (simp [*]; done)))) rfl ?_ ?_
          ·go_simp
           (try simp only [Zby])
           try rfl
          refine hK.out _ _ ⟨p, o, (by rw [ha.out]; exact Zbe 10 hb_ rfl rfl rfl), d, g, Q_HB, m, l⟩
         refine Zbf ?_ ?_
         ·rintro b a w' ⟨p, o, ha, d, g, Q_HB, m, l⟩ hb_ hon hoff
          refine ⟨_, rfl, fun K hK => ?_⟩
          have e5 : a.tmps[5]? = some (.int .i64 G) := by rw [ha]; exact (Zbw rfl).trans rfl
          have D : a.tmps[33]? = some (.bool (!false)) := by rw [ha]; exact Zay (e := (5, 33, .bool (!false))) 3 rfl rfl (hon 5 (by kernel_rfl)) rfl
          replace ha := mA ha
          have j := mA d
          have c := mA g
          have HB := mA Q_HB
          refine Zcn (w1 := w') (v := .int .i64 G) (Zb4 rfl rfl rfl (D.trans (by first | rfl | (simp [*]; done)))) rfl ?_ ?_
          ·go_simp
           (try simp only [Zby])
           try rfl
          refine hK.out _ _ ⟨p, o, (by rw [ha.out]; exact Zbe 11 hb_ rfl rfl rfl), d, g, Q_HB, m, l⟩
         refine Zbf ?_ ?_
         ·rintro b a w' ⟨p, o, ha, d, g, Q_HB, m, l⟩ hb_ hon hoff
          refine ⟨_, rfl, fun K hK => ?_⟩
          have e7 : a.tmps[7]? = some (.int .i64 u) := by rw [ha]; exact (Zbw rfl).trans rfl
          have D : a.tmps[33]? = some (.bool (!false)) := by rw [ha]; exact Zay (e := (5, 33, .bool (!false))) 3 rfl rfl (hon 5 (by kernel_rfl)) rfl
          replace ha := mA ha
          have j := mA d
          have c := mA g
          have HB := mA Q_HB
          refine Zcn (w1 := w') (v := .int .i64 u) (Zb4 rfl rfl rfl (D.trans (by first | rfl | (simp [*]; done)))) rfl ?_ ?_
          ·go_simp
           (try simp only [Zby])
           try rfl
          refine hK.out _ _ ⟨p, o, (by rw [ha.out]; exact Zbe 12 hb_ rfl rfl rfl), d, g, Q_HB, m, fun B => absurd ((hoff 16 (by kernel_rfl)).symm.trans B) (by decide)⟩
         refine Zbf ?_ ?_
         ·rintro b a w' ⟨p, o, ha, d, g, Q_HB, m, l⟩ hb_ hon hoff
          refine ⟨_, rfl, fun K hK => ?_⟩
          have e6 : a.tmps[6]? = some (.int .i64 s) := by rw [ha]; exact (Zbw rfl).trans rfl
          have D : a.tmps[33]? = some (.bool (!false)) := by rw [ha]; exact Zay (e := (5, 33, .bool (!false))) 3 rfl rfl (hon 5 (by kernel_rfl)) rfl
          replace ha := mA ha
          have j := mA d
          have c := mA g
          have HB := mA Q_HB
          refine Zcn (w1 := w') (v := .int .i64 s) (Zb4 rfl rfl rfl (D.trans (by first | rfl | (simp [*]; done)))) rfl ?_ ?_
          ·go_simp
           (try simp only [Zby])
           try rfl
          refine hK.out _ _ ⟨p, o, (by rw [ha.out]; exact Zbe 13 hb_ rfl rfl rfl), d, g, Q_HB, m, fun B => absurd ((hoff 16 (by kernel_rfl)).symm.trans B) (by decide)⟩
         refine Zbf ?_ ?_
         ·rintro b a w' ⟨p, o, ha, d, g, Q_HB, m, l⟩ hb_ hon hoff
          refine ⟨_, rfl, fun K hK => ?_⟩
          have dd : a.tmps[42]? = some (.int .i64 u) := by rw [ha]; exact Zay (e := (14, 42, .int .i64 u)) 12 rfl rfl (hon 14 (by kernel_rfl)) rfl
          have de : a.tmps[43]? = some (.int .i64 s) := by rw [ha]; exact Zay (e := (15, 43, .int .i64 s)) 13 rfl rfl (hon 15 (by kernel_rfl)) rfl
          have D : a.tmps[33]? = some (.bool (!false)) := by rw [ha]; exact Zay (e := (5, 33, .bool (!false))) 3 rfl rfl (hon 5 (by kernel_rfl)) rfl
          replace ha := mA ha
          have j := mA d
          have c := mA g
          have HB := mA Q_HB
          refine yZ (Kd.int .i64) _ 2 ?hg (N := 44) ?hd (xs := ([u, s] : List Int)) (inner := [.int .i64 u, .int .i64 s]) (ok := fun _ => True) (okp := fun _ => True) ?hr ?hp (fun _ hk => hk) trivial (Below.refl _ _) (Nat.le_refl _) (by simp) ?_; (case hd => rfl); (case hg => first | rfl | exact Zb4 rfl rfl rfl (D.trans (by first | rfl | (simp [*]; done)))); (case hr => first | (go_simp; done) | (go_simp; rfl)); (case hp => exact (Reps.one (show Kd.M (Kd.int .i64) _ _ _ u [.int .i64 u] from rfl) (Reps.one (show Kd.M (Kd.int .i64) _ _ _ s [.int .i64 s] from rfl) (Reps.none _ _))))
          intro o bM ac hb hg_ hnew_
          clear hg_ hnew_
          (first | rw [← aG.out] at ac | (simp only [Int.reduceToNat] at ac; rw [← aG.out] at ac))
          have af := mA (zN ac (Zah (bW)))
          have ag := mA (blkB j.out hb)
          have ah := mA (blkB c.out hb)
          have ai := mA (Zac (bW) hb)
          have aC := fun (B : b 10 = true) => (show Kd.R (Kd.int .i64) 2 bM w.heap.size (fun _ => True) p ak from by first | exact (zT (rP (m B)) (zK ac) hb) | exact zA (zT (rP (m B)) (zK ac) hb) (fun _ h_ => by first | trivial | exact h_ | exact h_.1))
          clear j c HB; have L := af; have j := ag; have c := ah; have HB := ai; clear af ag ah ai hb ac
          refine hK.out _ _ ⟨p, o, (by rw [ha.out]; exact Zbe 14 hb_ rfl rfl rfl), (bP j.out), (bP c.out), (bW), aC, fun _ => (rP L.out)⟩
         refine Zbf ?_ ?_
         ·rintro b a w' ⟨p, o, ha, d, g, Q_HB, m, l⟩ hb_ hon hoff
          refine ⟨_, rfl, fun K hK => ?_⟩
          have a8 : a.tmps[40]? = some (.agg #[.int .i64 y, .int .i64 z, .int .i64 A, .slice I x.length J]) := by rw [ha]; exact Zay (e := (12, 40, .agg #[.int .i64 y, .int .i64 z, .int .i64 A, .slice I x.length J])) 10 rfl rfl (hon 12 (by kernel_rfl)) rfl
          have a9 : a.tmps[41]? = some (.int .i64 G) := by rw [ha]; exact Zay (e := (13, 41, .int .i64 G)) 11 rfl rfl (hon 13 (by kernel_rfl)) rfl
          have ba : a.tmps[44]? = some (o) := by rw [ha]; exact Zay (e := (16, 44, o)) 14 rfl rfl (hon 16 (by kernel_rfl)) rfl
          have D : a.tmps[33]? = some (.bool (!false)) := by rw [ha]; exact Zay (e := (5, 33, .bool (!false))) 3 rfl rfl (hon 5 (by kernel_rfl)) rfl
          replace ha := mA ha
          have j := mA d
          have c := mA g
          have HB := mA Q_HB
          have E := mA (m (hon 10 (by kernel_rfl)))
          have L := mA (l (hon 16 (by kernel_rfl)))
          obtain ⟨bR, bS, bT⟩ := zJ L.out
          (first | subst bT | (injection bT with an aK ao; have aL := an.symm; have aM := ao.symm; clear an aK ao; subst aL; subst aM))
          refine Zb0 Tryd.func58 (by kernel_rfl) rfl #[.agg #[.int .i64 y, .int .i64 z, .int .i64 A, .slice I x.length J], .int .i64 G, .slice bR aj.length bS] (by first | rfl | exact Zb4 rfl rfl rfl (D.trans (by first | rfl | (simp [*]; done)))) rfl rfl (by first | (simp only [List.map_toArray, List.map_cons, List.map_nil, Act.eval, Array.getD_eq_getD_getElem?, Option.getD_some, a8, a9, ba, D]; done) | (simp only [List.map_toArray, List.map_cons, List.map_nil, Act.eval, Array.getD_eq_getD_getElem?, Option.getD_some, a8, a9, ba, D]; rfl)) ?_
          with_reducible refine (Zbn.calls k3 y z A _ _ x G _ _ aj U _ ?side1 ?side2 ?side3 ?side4 b9.out).mono ?_
          (case side1 => exact cP (zE ap.out HB.out))
          (case side2 => exact aq.out)
          (case side3 => exact cP ((zF L.out).2.2))
          (case side4 => exact (zF L.out).2.1)
          rintro e df ⟨rfl, hb⟩
          refine ⟨_, rfl, ?_⟩
          replace E := mA (zI (rP E.out) hb)
          replace L := mA (zI (rP L.out) hb)
          replace j := mA (blkB j.out hb)
          replace c := mA (blkB c.out hb)
          replace HB := mA (Zac (bW) hb)
          (try clear hb)
          (try clear hb2)
          (try clear hk)
          (try clear hi)
          refine hK.out _ _ ⟨p, .slice bR aj.length bS, (by rw [ha.out]; exact Zbe 15 hb_ rfl rfl rfl), (bP j.out), (bP c.out), (bW), fun _ => (rP E.out), fun _ => (rP L.out)⟩
         refine Zbf ?_ ?_
         ·rintro b a w' ⟨p, o, ha, d, g, Q_HB, m, l⟩ hb_ hon hoff
          refine ⟨_, rfl, fun K hK => ?_⟩
          have dg : a.tmps[39]? = some (.int .i64 T) := by rw [ha]; exact Zay (e := (11, 39, .int .i64 T)) 9 rfl rfl (hon 11 (by kernel_rfl)) rfl
          have dh : a.tmps[45]? = some (.int .i64 U) := by rw [ha]; exact Zay (e := (17, 45, .int .i64 U)) 15 rfl rfl (hon 17 (by kernel_rfl)) rfl
          have D : a.tmps[33]? = some (.bool (!false)) := by rw [ha]; exact Zay (e := (5, 33, .bool (!false))) 3 rfl rfl (hon 5 (by kernel_rfl)) rfl
          replace ha := mA ha
          have j := mA d
          have c := mA g
          have HB := mA Q_HB
          have E := mA (m (hon 10 (by kernel_rfl)))
          have L := mA (l (hon 16 (by kernel_rfl)))
          refine Zcn (w1 := w') (v := .bool (T != U)) (Zb4 rfl rfl rfl (D.trans (by first | rfl | (simp [*]; done)))) rfl ?_ ?_
          ·go_simp
           (try simp only [Zby])
           try rfl
          refine hK.out _ _ ⟨p, o, (by rw [ha.out]; exact Zbe 16 hb_ rfl rfl rfl), d, g, Q_HB, m, l⟩
         refine Zbf ?_ ?_
         ·rintro b a w' ⟨p, o, ha, d, g, Q_HB, m, l⟩ hb_ hon hoff
          refine ⟨_, rfl, fun K hK => ?_⟩
          have D : a.tmps[33]? = some (.bool (!false)) := by rw [ha]; exact Zay (e := (5, 33, .bool (!false))) 3 rfl rfl (hon 5 (by kernel_rfl)) rfl
          have di : a.tmps[46]? = some (.bool (T != U)) := by rw [ha]; exact Zay (e := (18, 46, .bool (T != U))) 16 rfl rfl (hon 18 (by kernel_rfl)) rfl
          replace ha := mA ha
          have j := mA d
          have c := mA g
          have HB := mA Q_HB
          have E := mA (m (hon 10 (by kernel_rfl)))
          have L := mA (l (hon 16 (by kernel_rfl)))
          refine Zcn (w1 := w') (v := .bool (T != U)) (by rfl) rfl ?_ ?_
          ·go_simp
           (try simp only [Zby])
           try rfl
          refine hK.out _ _ ⟨p, o, (by rw [ha.out]; exact Zbe 17 hb_ rfl rfl rfl), d, g, Q_HB, m, l⟩
         exact steps_nil
        rintro b a df hall ⟨p, o, ha, d, g, Q_HB, m, l⟩
        clear j c HB
        have aN := hall 0 (by kernel_rfl)
        have aO := hall 3 (by kernel_rfl)
        have aP := hall 4 (by kernel_rfl)
        have aQ := hall 5 (by kernel_rfl)
        have aR := hall 6 (by kernel_rfl)
        have aS := hall 7 (by kernel_rfl)
        have aT := hall 8 (by kernel_rfl)
        have aU := hall 9 (by kernel_rfl)
        have al := hall 10 (by kernel_rfl)
        have au := hall 11 (by kernel_rfl)
        have av := hall 12 (by kernel_rfl)
        have aw := hall 13 (by kernel_rfl)
        have ax := hall 14 (by kernel_rfl)
        have ay := hall 15 (by kernel_rfl)
        have am := hall 16 (by kernel_rfl)
        have az := hall 17 (by kernel_rfl)
        have aA := hall 18 (by kernel_rfl)
        have aB := hall 19 (by kernel_rfl)
        subst ha
        simp only [Zc6, aN, aO, aP, aQ, aR, aS, aT, aU, al, au, av, aw, ax, ay, am, az, aA, aB, if_true, Act.put, List.setIfInBounds_toArray, List.set_cons_zero, List.set_cons_succ]
        have j := mA d
        clear d
        have c := mA g
        clear g
        have HB := mA Q_HB
        clear Q_HB
        have E := mA (m al)
        clear m
        have L := mA (l am)
        clear l hall aN aO aP aQ aR aS aT aU al au av aw ax ay am az aA aB
        try go_wp2
        go_roundg k3
        case measure => have := aD.out; have := aE.out; have := aV.out; omega
        case rel => exact ⟨(wrap64 (u + 1)), (eW), H', ⟨by have := aD.out; have := aE.out; have := aV.out; omega⟩, ⟨bP j.out⟩, ⟨bP c.out⟩, ⟨bW⟩⟩
       rw [if_neg aH] at H
       have b3 : (T == U) = false := beq_eq_false_iff_ne.mpr aH
       have b4 : (T != U) = true := bne_iff_ne.mpr aH
       obtain ⟨dK, a1⟩ : ∃ y_ : List Int, y_ = (([G, s, u] : List Int)) := ⟨_, rfl⟩
       rw [← a1] at H
       have bm := mA a1
       clear a1
       obtain rfl := oI H
       have dD := aa.out
       have dE := Y.out
       have cS : wr.cell? ⟨q, 0, none⟩ = some (.int .i64 y) := bc c 0
       have cT : wr.cell? ⟨q, 1, none⟩ = some (.int .i64 z) := bc c 1
       have cU : wr.cell? ⟨q, 2, none⟩ = some (.int .i64 A) := bc c 2
       have cV : wr.cell? ⟨q, 3, none⟩ = some (.slice I x.length J) := bc c 3
       have cW := Zab c.out 0
       have cX := Zab c.out 1
       have cY := Zab c.out 2
       have cZ := Zab c.out 3
       try go_wp2
       replace j := mA (Zad j.out)
       replace c := mA (Zad c.out)
       replace HB := mA (Zax HB.out)
       refine Zcd (n := 20) (S := fun w' => True) (ds := []) #[false, false, false, false, false, false, false, false, false, false, false, false, false, false, false, false, false, false, false, false] (by kernel_rfl) rfl rfl trivial (fun hHeld => ?_); refine Zb8 Zau.tab10 Zau.bits10 (fun HT_ HW_ => ?_)
       generalize wr.drew = w38 at j c HB hHeld ⊢
       refine Zaq (i := 1) (N := some 29) (Zam HT_.out (by kernel_rfl)) ?_
       refine Zaq (i := 2) (N := some 30) (Zam HT_.out (by kernel_rfl)) ?_
       refine inv_at [0, 3, 4, 5, 6, 7, 8, 9, 10, 11, 12, 13, 14, 15, 16, 17, 18, 19] (fun bL b a w' => ∃ (p : Value) (o : Value), a = Zc6 bL b [(0, 28, .agg #[.int .i64 P, .slice W O.length X]), (3, 31, .bool false), (4, 32, .bool (!false)), (5, 33, .bool (!false)), (6, 34, .agg #[.int .i64 y, .int .i64 z, .int .i64 A, .slice I x.length J]), (7, 35, .int .i64 G), (8, 36, .int .i64 s), (9, 37, .int .i64 u), (10, 38, p), (11, 39, .int .i64 T), (12, 40, .agg #[.int .i64 y, .int .i64 z, .int .i64 A, .slice I x.length J]), (13, 41, .int .i64 G), (14, 42, .int .i64 u), (15, 43, .int .i64 s), (16, 44, o), (17, 45, .int .i64 U), (18, 46, .bool (T != U)), (19, 47, .bool (T != U))] ∧ (w'.heap[ab]? = some (.cells #[.int .i64 P, .slice W O.length X] 32 (0, 0))) ∧ (w'.heap[q]? = some (.cells #[.int .i64 y, .int .i64 z, .int .i64 A, .slice I x.length J] 34 (0, 0))) ∧ (Below w.heap.size w w') ∧ (b 10 = true → Kd.R (Kd.int .i64) 2 w' w.heap.size (fun _ => True) p ak) ∧ (b 16 = true → Kd.R (Kd.int .i64) 2 w' w.heap.size (fun _ => True) o aj)) HT_.out HW_.out (by kernel_rfl) (by kernel_rfl) ?_ ?_ ?_
       ·exact ⟨.bool false, .bool false, by simp only [Zc6, Bool.false_eq_true, if_false], j.out, c.out, HB.out, fun h_ => absurd h_ (by decide), fun h_ => absurd h_ (by decide)⟩
       ·skip
        clear j c HB
        refine Zbf ?_ ?_
        ·rintro b a w' ⟨p, o, ha, d, g, Q_HB, m, l⟩ hb_ hon hoff
         refine ⟨_, rfl, fun K hK => ?_⟩
         have e2 : a.tmps[2]? = some (.pointer (some ⟨ab, 0, none⟩)) := by rw [ha]; exact (Zbw rfl).trans rfl
         replace ha := mA ha
         have j := mA d
         have c := mA g
         have HB := mA Q_HB
         have aI : w'.cell? ⟨ab, 0, none⟩ = some (.int .i64 P) := bc j 0
         have aJ : w'.cell? ⟨ab, 1, none⟩ = some (.slice W O.length X) := bc j 1
         refine Zcn (w1 := w') (v := .agg #[.int .i64 P, .slice W O.length X]) (by rfl) rfl ?_ ?_
         ·go_simp
          (try simp only [Zby])
          try rfl
         refine hK.out _ _ ⟨p, o, (by rw [ha.out]; exact Zbe 0 hb_ rfl rfl rfl), d, g, Q_HB, fun B => absurd ((hoff 10 (by kernel_rfl)).symm.trans B) (by decide), fun B => absurd ((hoff 16 (by kernel_rfl)).symm.trans B) (by decide)⟩
        refine Zbf ?_ ?_
        ·rintro b a w' ⟨p, o, ha, d, g, Q_HB, m, l⟩ hb_ hon hoff
         refine ⟨_, rfl, fun K hK => ?_⟩
         have a2 : a.tmps[28]? = some (.agg #[.int .i64 P, .slice W O.length X]) := by rw [ha]; exact Zay (e := (0, 28, .agg #[.int .i64 P, .slice W O.length X])) 0 rfl rfl (hon 0 (by kernel_rfl)) rfl
         have a3 : a.tmps[29]? = some (.int .i64 s) := by rw [ha]; exact (Zbw rfl).trans rfl
         have a4 : a.tmps[30]? = some (.int .i64 u) := by rw [ha]; exact (Zbw rfl).trans rfl
         replace ha := mA ha
         have j := mA d
         have c := mA g
         have HB := mA Q_HB
         refine Zb0 Tryd.func28 (by kernel_rfl) rfl #[.agg #[.int .i64 P, .slice W O.length X], .int .i64 s, .int .i64 u] (by rfl) rfl rfl (by first | (simp only [List.map_toArray, List.map_cons, List.map_nil, Act.eval, Array.getD_eq_getD_getElem?, Option.getD_some, a2, a3, a4]; done) | (simp only [List.map_toArray, List.map_cons, List.map_nil, Act.eval, Array.getD_eq_getD_getElem?, Option.getD_some, a2, a3, a4]; rfl)) ?_
         with_reducible refine (Zdn.calls P _ _ O s u false _ ?side1 ?side2 bI.out).mono ?_
         (case side1 => exact cP (zE aX.out HB.out))
         (case side2 => exact aY.out)
         rintro e dP ⟨rfl, hb⟩
         refine ⟨_, rfl, ?_⟩
         replace j := mA (blkB j.out hb)
         replace c := mA (blkB c.out hb)
         replace HB := mA (Zac (bW) hb)
         (try clear hb)
         (try clear hb2)
         (try clear hk)
         (try clear hi)
         refine hK.out _ _ ⟨p, o, (by rw [ha.out]; exact Zbe 1 hb_ rfl rfl rfl), (bP j.out), (bP c.out), (bW), fun B => absurd ((hoff 10 (by kernel_rfl)).symm.trans B) (by decide), fun B => absurd ((hoff 16 (by kernel_rfl)).symm.trans B) (by decide)⟩
        refine Zbf ?_ ?_
        ·rintro b a w' ⟨p, o, ha, d, g, Q_HB, m, l⟩ hb_ hon hoff
         refine ⟨_, rfl, fun K hK => ?_⟩
         have c0 : a.tmps[31]? = some (.bool false) := by rw [ha]; exact Zay (e := (3, 31, .bool false)) 1 rfl rfl (hon 3 (by kernel_rfl)) rfl
         replace ha := mA ha
         have j := mA d
         have c := mA g
         have HB := mA Q_HB
         refine Zcn (w1 := w') (v := .bool (!false)) (by rfl) rfl ?_ ?_
         ·go_simp
          (try simp only [Zby])
          try rfl
         refine hK.out _ _ ⟨p, o, (by rw [ha.out]; exact Zbe 2 hb_ rfl rfl rfl), d, g, Q_HB, fun B => absurd ((hoff 10 (by kernel_rfl)).symm.trans B) (by decide), fun B => absurd ((hoff 16 (by kernel_rfl)).symm.trans B) (by decide)⟩
        refine Zbf ?_ ?_
        ·rintro b a w' ⟨p, o, ha, d, g, Q_HB, m, l⟩ hb_ hon hoff
         refine ⟨_, rfl, fun K hK => ?_⟩
         have c1 : a.tmps[32]? = some (.bool (!false)) := by rw [ha]; exact Zay (e := (4, 32, .bool (!false))) 2 rfl rfl (hon 4 (by kernel_rfl)) rfl
         replace ha := mA ha
         have j := mA d
         have c := mA g
         have HB := mA Q_HB
         refine Zcn (w1 := w') (v := .bool (!false)) (by rfl) rfl ?_ ?_
         ·go_simp
          (try simp only [Zby])
          try rfl
         refine hK.out _ _ ⟨p, o, (by rw [ha.out]; exact Zbe 3 hb_ rfl rfl rfl), d, g, Q_HB, fun B => absurd ((hoff 10 (by kernel_rfl)).symm.trans B) (by decide), fun B => absurd ((hoff 16 (by kernel_rfl)).symm.trans B) (by decide)⟩
        refine Zbf ?_ ?_
        ·rintro b a w' ⟨p, o, ha, d, g, Q_HB, m, l⟩ hb_ hon hoff
         refine ⟨_, rfl, fun K hK => ?_⟩
         have e3 : a.tmps[3]? = some (.pointer (some ⟨q, 0, none⟩)) := by rw [ha]; exact (Zbw rfl).trans rfl
         have D : a.tmps[33]? = some (.bool (!false)) := by rw [ha]; exact Zay (e := (5, 33, .bool (!false))) 3 rfl rfl (hon 5 (by kernel_rfl)) rfl
         replace ha := mA ha
         have j := mA d
         have c := mA g
         have HB := mA Q_HB
         have aI : w'.cell? ⟨q, 0, none⟩ = some (.int .i64 y) := bc c 0
         have aJ : w'.cell? ⟨q, 1, none⟩ = some (.int .i64 z) := bc c 1
         have bd : w'.cell? ⟨q, 2, none⟩ = some (.int .i64 A) := bc c 2
         have bf : w'.cell? ⟨q, 3, none⟩ = some (.slice I x.length J) := bc c 3
         refine Zcn (w1 := w') (v := .agg #[.int .i64 y, .int .i64 z, .int .i64 A, .slice I x.length J]) (Zb4 rfl rfl rfl (D.trans (by first | rfl | (simp [*]; done)))) rfl ?_ ?_
         ·go_simp
          (try simp only [Zby])
          try rfl
         refine hK.out _ _ ⟨p, o, (by rw [ha.out]; exact Zbe 4 hb_ rfl rfl rfl), d, g, Q_HB, m, l⟩
        refine Zbf ?_ ?_
        ·rintro b a w' ⟨p, o, ha, d, g, Q_HB, m, l⟩ hb_ hon hoff
         refine ⟨_, rfl, fun K hK => ?_⟩
         have e5 : a.tmps[5]? = some (.int .i64 G) := by rw [ha]; exact (Zbw rfl).trans rfl
         have D : a.tmps[33]? = some (.bool (!false)) := by rw [ha]; exact Zay (e := (5, 33, .bool (!false))) 3 rfl rfl (hon 5 (by kernel_rfl)) rfl
         replace ha := mA ha
         have j := mA d
         have c := mA g
         have HB := mA Q_HB
         refine Zcn (w1 := w') (v := .int .i64 G) (Zb4 rfl rfl rfl (D.trans (by first | rfl | (simp [*]; done)))) rfl ?_ ?_
         ·go_simp
          (try simp only [Zby])
          try rfl
         refine hK.out _ _ ⟨p, o, (by rw [ha.out]; exact Zbe 5 hb_ rfl rfl rfl), d, g, Q_HB, m, l⟩
        refine Zbf ?_ ?_
        ·rintro b a w' ⟨p, o, ha, d, g, Q_HB, m, l⟩ hb_ hon hoff
         refine ⟨_, rfl, fun K hK => ?_⟩
         have e6 : a.tmps[6]? = some (.int .i64 s) := by rw [ha]; exact (Zbw rfl).trans rfl
         have D : a.tmps[33]? = some (.bool (!false)) := by rw [ha]; exact Zay (e := (5, 33, .bool (!false))) 3 rfl rfl (hon 5 (by kernel_rfl)) rfl
         replace ha := mA ha
         have j := mA d
         have c := mA g
         have HB := mA Q_HB
         refine Zcn (w1 := w') (v := .int .i64 s) (Zb4 rfl rfl rfl (D.trans (by first | rfl | (simp [*]; done)))) rfl ?_ ?_
         ·go_simp
          (try simp only [Zby])
          try rfl
         refine hK.out _ _ ⟨p, o, (by rw [ha.out]; exact Zbe 6 hb_ rfl rfl rfl), d, g, Q_HB, fun B => absurd ((hoff 10 (by kernel_rfl)).symm.trans B) (by decide), l⟩
        refine Zbf ?_ ?_
        ·rintro b a w' ⟨p, o, ha, d, g, Q_HB, m, l⟩ hb_ hon hoff
         refine ⟨_, rfl, fun K hK => ?_⟩
         have e7 : a.tmps[7]? = some (.int .i64 u) := by rw [ha]; exact (Zbw rfl).trans rfl
         have D : a.tmps[33]? = some (.bool (!false)) := by rw [ha]; exact Zay (e := (5, 33, .bool (!false))) 3 rfl rfl (hon 5 (by kernel_rfl)) rfl
         replace ha := mA ha
         have j := mA d
         have c := mA g
         have HB := mA Q_HB
         refine Zcn (w1 := w') (v := .int .i64 u) (Zb4 rfl rfl rfl (D.trans (by first | rfl | (simp [*]; done)))) rfl ?_ ?_
         ·go_simp
          (try simp only [Zby])
          try rfl
         refine hK.out _ _ ⟨p, o, (by rw [ha.out]; exact Zbe 7 hb_ rfl rfl rfl), d, g, Q_HB, fun B => absurd ((hoff 10 (by kernel_rfl)).symm.trans B) (by decide), l⟩
        refine Zbf ?_ ?_
        ·rintro b a w' ⟨p, o, ha, d, g, Q_HB, m, l⟩ hb_ hon hoff
         refine ⟨_, rfl, fun K hK => ?_⟩
         have da : a.tmps[36]? = some (.int .i64 s) := by rw [ha]; exact Zay (e := (8, 36, .int .i64 s)) 6 rfl rfl (hon 8 (by kernel_rfl)) rfl
         have db : a.tmps[37]? = some (.int .i64 u) := by rw [ha]; exact Zay (e := (9, 37, .int .i64 u)) 7 rfl rfl (hon 9 (by kernel_rfl)) rfl
         have D : a.tmps[33]? = some (.bool (!false)) := by rw [ha]; exact Zay (e := (5, 33, .bool (!false))) 3 rfl rfl (hon 5 (by kernel_rfl)) rfl
         replace ha := mA ha
         have j := mA d
         have c := mA g
         have HB := mA Q_HB
         refine yZ (Kd.int .i64) _ 2 ?hg (N := 38) ?hd (xs := ([s, u] : List Int)) (inner := [.int .i64 s, .int .i64 u]) (ok := fun _ => True) (okp := fun _ => True) ?hr ?hp (fun _ hk => hk) trivial (Below.refl _ _) (Nat.le_refl _) (by simp) ?_; (case hd => rfl); (case hg => first | rfl | exact Zb4 rfl rfl rfl (D.trans (by first | rfl | (simp [*]; done)))); (case hr => first | (go_simp; done) | (go_simp; rfl)); (case hp => exact (Reps.one (show Kd.M (Kd.int .i64) _ _ _ s [.int .i64 s] from rfl) (Reps.one (show Kd.M (Kd.int .i64) _ _ _ u [.int .i64 u] from rfl) (Reps.none _ _))))
         intro p bU ad hb hg_ hnew_
         clear hg_ hnew_
         (first | rw [← aF.out] at ad | (simp only [Int.reduceToNat] at ad; rw [← aF.out] at ad))
         have af := mA (zN ad (Zah (bW)))
         have ag := mA (blkB j.out hb)
         have ah := mA (blkB c.out hb)
         have ai := mA (Zac (bW) hb)
         have ae := fun (B : b 16 = true) => (show Kd.R (Kd.int .i64) 2 bU w.heap.size (fun _ => True) o aj from by first | exact (zT (rP (l B)) (zK ad) hb) | exact zA (zT (rP (l B)) (zK ad) hb) (fun _ h_ => by first | trivial | exact h_ | exact h_.1))
         clear j c HB; have E := af; have j := ag; have c := ah; have HB := ai; clear af ag ah ai hb ad
         refine hK.out _ _ ⟨p, o, (by rw [ha.out]; exact Zbe 8 hb_ rfl rfl rfl), (bP j.out), (bP c.out), (bW), fun _ => (rP E.out), ae⟩
        refine Zbf ?_ ?_
        ·rintro b a w' ⟨p, o, ha, d, g, Q_HB, m, l⟩ hb_ hon hoff
         refine ⟨_, rfl, fun K hK => ?_⟩
         have a5 : a.tmps[34]? = some (.agg #[.int .i64 y, .int .i64 z, .int .i64 A, .slice I x.length J]) := by rw [ha]; exact Zay (e := (6, 34, .agg #[.int .i64 y, .int .i64 z, .int .i64 A, .slice I x.length J])) 4 rfl rfl (hon 6 (by kernel_rfl)) rfl
         have a6 : a.tmps[35]? = some (.int .i64 G) := by rw [ha]; exact Zay (e := (7, 35, .int .i64 G)) 5 rfl rfl (hon 7 (by kernel_rfl)) rfl
         have a7 : a.tmps[38]? = some (p) := by rw [ha]; exact Zay (e := (10, 38, p)) 8 rfl rfl (hon 10 (by kernel_rfl)) rfl
         have D : a.tmps[33]? = some (.bool (!false)) := by rw [ha]; exact Zay (e := (5, 33, .bool (!false))) 3 rfl rfl (hon 5 (by kernel_rfl)) rfl
         replace ha := mA ha
         have j := mA d
         have c := mA g
         have HB := mA Q_HB
         have E := mA (m (hon 10 (by kernel_rfl)))
         obtain ⟨bV, bX, bY⟩ := zJ E.out
         (first | subst bY | (injection bY with an aK ao; have aL := an.symm; have aM := ao.symm; clear an aK ao; subst aL; subst aM))
         refine Zb0 Tryd.func58 (by kernel_rfl) rfl #[.agg #[.int .i64 y, .int .i64 z, .int .i64 A, .slice I x.length J], .int .i64 G, .slice bV ak.length bX] (by first | rfl | exact Zb4 rfl rfl rfl (D.trans (by first | rfl | (simp [*]; done)))) rfl rfl (by first | (simp only [List.map_toArray, List.map_cons, List.map_nil, Act.eval, Array.getD_eq_getD_getElem?, Option.getD_some, a5, a6, a7, D]; done) | (simp only [List.map_toArray, List.map_cons, List.map_nil, Act.eval, Array.getD_eq_getD_getElem?, Option.getD_some, a5, a6, a7, D]; rfl)) ?_
         with_reducible refine (Zbn.calls k3 y z A _ _ x G _ _ ak T _ ?side1 ?side2 ?side3 ?side4 b8.out).mono ?_
         (case side1 => exact cP (zE ap.out HB.out))
         (case side2 => exact aq.out)
         (case side3 => exact cP ((zF E.out).2.2))
         (case side4 => exact (zF E.out).2.1)
         rintro e dj ⟨rfl, hb⟩
         refine ⟨_, rfl, ?_⟩
         have af := mA (zI (rP E.out) hb)
         have ag := mA (blkB j.out hb)
         have ah := mA (blkB c.out hb)
         have ai := mA (Zac (bW) hb)
         have ae := fun (B : b 16 = true) => (show Kd.R (Kd.int .i64) 2 dj w.heap.size (fun _ => True) o aj from by first | exact (zI (rP (l B)) hb) | exact zA (zI (rP (l B)) hb) (fun _ h_ => by first | trivial | exact h_ | exact h_.1))
         clear E j c HB; have E := af; have j := ag; have c := ah; have HB := ai; clear af ag ah ai
         (try clear hb)
         (try clear hb2)
         (try clear hk)
         (try clear hi)
         refine hK.out _ _ ⟨.slice bV ak.length bX, o, (by rw [ha.out]; exact Zbe 9 hb_ rfl rfl rfl), (bP j.out), (bP c.out), (bW), fun _ => (rP E.out), ae⟩
        refine Zbf ?_ ?_
        ·rintro b a w' ⟨p, o, ha, d, g, Q_HB, m, l⟩ hb_ hon hoff
         refine ⟨_, rfl, fun K hK => ?_⟩
         have e3 : a.tmps[3]? = some (.pointer (some ⟨q, 0, none⟩)) := by rw [ha]; exact (Zbw rfl).trans rfl
         have D : a.tmps[33]? = some (.bool (!false)) := by rw [ha]; exact Zay (e := (5, 33, .bool (!false))) 3 rfl rfl (hon 5 (by kernel_rfl)) rfl
         replace ha := mA ha
         have j := mA d
         have c := mA g
         have HB := mA Q_HB
         have aI : w'.cell? ⟨q, 0, none⟩ = some (.int .i64 y) := bc c 0
         have aJ : w'.cell? ⟨q, 1, none⟩ = some (.int .i64 z) := bc c 1
         have bd : w'.cell? ⟨q, 2, none⟩ = some (.int .i64 A) := bc c 2
         have bf : w'.cell? ⟨q, 3, none⟩ = some (.slice I x.length J) := bc c 3
         refine Zcn (w1 := w') (v := .agg #[.int .i64 y, .int .i64 z, .int .i64 A, .slice I x.length J]) (Zb4 rfl rfl rfl (D.trans (by first | rfl | (simp [*]; done)))) rfl ?_ ?_
         ·go_simp
          (try simp only [Zby])
          try rfl
         refine hK.out _ _ ⟨p, o, (by rw [ha.out]; exact Zbe 10 hb_ rfl rfl rfl), d, g, Q_HB, m, l⟩
        refine Zbf ?_ ?_
        ·rintro b a w' ⟨p, o, ha, d, g, Q_HB, m, l⟩ hb_ hon hoff
         refine ⟨_, rfl, fun K hK => ?_⟩
         have e5 : a.tmps[5]? = some (.int .i64 G) := by rw [ha]; exact (Zbw rfl).trans rfl
         have D : a.tmps[33]? = some (.bool (!false)) := by rw [ha]; exact Zay (e := (5, 33, .bool (!false))) 3 rfl rfl (hon 5 (by kernel_rfl)) rfl
         replace ha := mA ha
         have j := mA d
         have c := mA g
         have HB := mA Q_HB
         refine Zcn (w1 := w') (v := .int .i64 G) (Zb4 rfl rfl rfl (D.trans (by first | rfl | (simp [*]; done)))) rfl ?_ ?_
         ·go_simp
          (try simp only [Zby])
          try rfl
         refine hK.out _ _ ⟨p, o, (by rw [ha.out]; exact Zbe 11 hb_ rfl rfl rfl), d, g, Q_HB, m, l⟩
        refine Zbf ?_ ?_
        ·rintro b a w' ⟨p, o, ha, d, g, Q_HB, m, l⟩ hb_ hon hoff
         refine ⟨_, rfl, fun K hK => ?_⟩
         have e7 : a.tmps[7]? = some (.int .i64 u) := by rw [ha]; exact (Zbw rfl).trans rfl
         have D : a.tmps[33]? = some (.bool (!false)) := by rw [ha]; exact Zay (e := (5, 33, .bool (!false))) 3 rfl rfl (hon 5 (by kernel_rfl)) rfl
         replace ha := mA ha
         have j := mA d
         have c := mA g
         have HB := mA Q_HB
         refine Zcn (w1 := w') (v := .int .i64 u) (Zb4 rfl rfl rfl (D.trans (by first | rfl | (simp [*]; done)))) rfl ?_ ?_
         ·go_simp
          (try simp only [Zby])
          try rfl
         refine hK.out _ _ ⟨p, o, (by rw [ha.out]; exact Zbe 12 hb_ rfl rfl rfl), d, g, Q_HB, m, fun B => absurd ((hoff 16 (by kernel_rfl)).symm.trans B) (by decide)⟩
        refine Zbf ?_ ?_
        ·rintro b a w' ⟨p, o, ha, d, g, Q_HB, m, l⟩ hb_ hon hoff
         refine ⟨_, rfl, fun K hK => ?_⟩
         have e6 : a.tmps[6]? = some (.int .i64 s) := by rw [ha]; exact (Zbw rfl).trans rfl
         have D : a.tmps[33]? = some (.bool (!false)) := by rw [ha]; exact Zay (e := (5, 33, .bool (!false))) 3 rfl rfl (hon 5 (by kernel_rfl)) rfl
         replace ha := mA ha
         have j := mA d
         have c := mA g
         have HB := mA Q_HB
         refine Zcn (w1 := w') (v := .int .i64 s) (Zb4 rfl rfl rfl (D.trans (by first | rfl | (simp [*]; done)))) rfl ?_ ?_
         ·go_simp
          (try simp only [Zby])
          try rfl
         refine hK.out _ _ ⟨p, o, (by rw [ha.out]; exact Zbe 13 hb_ rfl rfl rfl), d, g, Q_HB, m, fun B => absurd ((hoff 16 (by kernel_rfl)).symm.trans B) (by decide)⟩
        refine Zbf ?_ ?_
        ·rintro b a w' ⟨p, o, ha, d, g, Q_HB, m, l⟩ hb_ hon hoff
         refine ⟨_, rfl, fun K hK => ?_⟩
         have dd : a.tmps[42]? = some (.int .i64 u) := by rw [ha]; exact Zay (e := (14, 42, .int .i64 u)) 12 rfl rfl (hon 14 (by kernel_rfl)) rfl
         have de : a.tmps[43]? = some (.int .i64 s) := by rw [ha]; exact Zay (e := (15, 43, .int .i64 s)) 13 rfl rfl (hon 15 (by kernel_rfl)) rfl
         have D : a.tmps[33]? = some (.bool (!false)) := by rw [ha]; exact Zay (e := (5, 33, .bool (!false))) 3 rfl rfl (hon 5 (by kernel_rfl)) rfl
         replace ha := mA ha
         have j := mA d
         have c := mA g
         have HB := mA Q_HB
         refine yZ (Kd.int .i64) _ 2 ?hg (N := 44) ?hd (xs := ([u, s] : List Int)) (inner := [.int .i64 u, .int .i64 s]) (ok := fun _ => True) (okp := fun _ => True) ?hr ?hp (fun _ hk => hk) trivial (Below.refl _ _) (Nat.le_refl _) (by simp) ?_; (case hd => rfl); (case hg => first | rfl | exact Zb4 rfl rfl rfl (D.trans (by first | rfl | (simp [*]; done)))); (case hr => first | (go_simp; done) | (go_simp; rfl)); (case hp => exact (Reps.one (show Kd.M (Kd.int .i64) _ _ _ u [.int .i64 u] from rfl) (Reps.one (show Kd.M (Kd.int .i64) _ _ _ s [.int .i64 s] from rfl) (Reps.none _ _))))
         intro o bU ad hb hg_ hnew_
         clear hg_ hnew_
         (first | rw [← aG.out] at ad | (simp only [Int.reduceToNat] at ad; rw [← aG.out] at ad))
         have af := mA (zN ad (Zah (bW)))
         have ag := mA (blkB j.out hb)
         have ah := mA (blkB c.out hb)
         have ai := mA (Zac (bW) hb)
         have aC := fun (B : b 10 = true) => (show Kd.R (Kd.int .i64) 2 bU w.heap.size (fun _ => True) p ak from by first | exact (zT (rP (m B)) (zK ad) hb) | exact zA (zT (rP (m B)) (zK ad) hb) (fun _ h_ => by first | trivial | exact h_ | exact h_.1))
         clear j c HB; have L := af; have j := ag; have c := ah; have HB := ai; clear af ag ah ai hb ad
         refine hK.out _ _ ⟨p, o, (by rw [ha.out]; exact Zbe 14 hb_ rfl rfl rfl), (bP j.out), (bP c.out), (bW), aC, fun _ => (rP L.out)⟩
        refine Zbf ?_ ?_
        ·rintro b a w' ⟨p, o, ha, d, g, Q_HB, m, l⟩ hb_ hon hoff
         refine ⟨_, rfl, fun K hK => ?_⟩
         have a8 : a.tmps[40]? = some (.agg #[.int .i64 y, .int .i64 z, .int .i64 A, .slice I x.length J]) := by rw [ha]; exact Zay (e := (12, 40, .agg #[.int .i64 y, .int .i64 z, .int .i64 A, .slice I x.length J])) 10 rfl rfl (hon 12 (by kernel_rfl)) rfl
         have a9 : a.tmps[41]? = some (.int .i64 G) := by rw [ha]; exact Zay (e := (13, 41, .int .i64 G)) 11 rfl rfl (hon 13 (by kernel_rfl)) rfl
         have ba : a.tmps[44]? = some (o) := by rw [ha]; exact Zay (e := (16, 44, o)) 14 rfl rfl (hon 16 (by kernel_rfl)) rfl
         have D : a.tmps[33]? = some (.bool (!false)) := by rw [ha]; exact Zay (e := (5, 33, .bool (!false))) 3 rfl rfl (hon 5 (by kernel_rfl)) rfl
         replace ha := mA ha
         have j := mA d
         have c := mA g
         have HB := mA Q_HB
         have E := mA (m (hon 10 (by kernel_rfl)))
         have L := mA (l (hon 16 (by kernel_rfl)))
         obtain ⟨bZ, b0, b1⟩ := zJ L.out
         (first | subst b1 | (injection b1 with an aK ao; have aL := an.symm; have aM := ao.symm; clear an aK ao; subst aL; subst aM))
         refine Zb0 Tryd.func58 (by kernel_rfl) rfl #[.agg #[.int .i64 y, .int .i64 z, .int .i64 A, .slice I x.length J], .int .i64 G, .slice bZ aj.length b0] (by first | rfl | exact Zb4 rfl rfl rfl (D.trans (by first | rfl | (simp [*]; done)))) rfl rfl (by first | (simp only [List.map_toArray, List.map_cons, List.map_nil, Act.eval, Array.getD_eq_getD_getElem?, Option.getD_some, a8, a9, ba, D]; done) | (simp only [List.map_toArray, List.map_cons, List.map_nil, Act.eval, Array.getD_eq_getD_getElem?, Option.getD_some, a8, a9, ba, D]; rfl)) ?_
         with_reducible refine (Zbn.calls k3 y z A _ _ x G _ _ aj U _ ?side1 ?side2 ?side3 ?side4 b9.out).mono ?_
         (case side1 => exact cP (zE ap.out HB.out))
         (case side2 => exact aq.out)
         (case side3 => exact cP ((zF L.out).2.2))
         (case side4 => exact (zF L.out).2.1)
         rintro e dk ⟨rfl, hb⟩
         refine ⟨_, rfl, ?_⟩
         replace E := mA (zI (rP E.out) hb)
         replace L := mA (zI (rP L.out) hb)
         replace j := mA (blkB j.out hb)
         replace c := mA (blkB c.out hb)
         replace HB := mA (Zac (bW) hb)
         (try clear hb)
         (try clear hb2)
         (try clear hk)
         (try clear hi)
         refine hK.out _ _ ⟨p, .slice bZ aj.length b0, (by rw [ha.out]; exact Zbe 15 hb_ rfl rfl rfl), (bP j.out), (bP c.out), (bW), fun _ => (rP E.out), fun _ => (rP L.out)⟩
        refine Zbf ?_ ?_
        ·rintro b a w' ⟨p, o, ha, d, g, Q_HB, m, l⟩ hb_ hon hoff
         refine ⟨_, rfl, fun K hK => ?_⟩
         have dg : a.tmps[39]? = some (.int .i64 T) := by rw [ha]; exact Zay (e := (11, 39, .int .i64 T)) 9 rfl rfl (hon 11 (by kernel_rfl)) rfl
         have dh : a.tmps[45]? = some (.int .i64 U) := by rw [ha]; exact Zay (e := (17, 45, .int .i64 U)) 15 rfl rfl (hon 17 (by kernel_rfl)) rfl
         have D : a.tmps[33]? = some (.bool (!false)) := by rw [ha]; exact Zay (e := (5, 33, .bool (!false))) 3 rfl rfl (hon 5 (by kernel_rfl)) rfl
         replace ha := mA ha
         have j := mA d
         have c := mA g
         have HB := mA Q_HB
         have E := mA (m (hon 10 (by kernel_rfl)))
         have L := mA (l (hon 16 (by kernel_rfl)))
         refine Zcn (w1 := w') (v := .bool (T != U)) (Zb4 rfl rfl rfl (D.trans (by first | rfl | (simp [*]; done)))) rfl ?_ ?_
         ·go_simp
          (try simp only [Zby])
          try rfl
         refine hK.out _ _ ⟨p, o, (by rw [ha.out]; exact Zbe 16 hb_ rfl rfl rfl), d, g, Q_HB, m, l⟩
        refine Zbf ?_ ?_
        ·rintro b a w' ⟨p, o, ha, d, g, Q_HB, m, l⟩ hb_ hon hoff
         refine ⟨_, rfl, fun K hK => ?_⟩
         have D : a.tmps[33]? = some (.bool (!false)) := by rw [ha]; exact Zay (e := (5, 33, .bool (!false))) 3 rfl rfl (hon 5 (by kernel_rfl)) rfl
         have di : a.tmps[46]? = some (.bool (T != U)) := by rw [ha]; exact Zay (e := (18, 46, .bool (T != U))) 16 rfl rfl (hon 18 (by kernel_rfl)) rfl
         replace ha := mA ha
         have j := mA d
         have c := mA g
         have HB := mA Q_HB
         have E := mA (m (hon 10 (by kernel_rfl)))
         have L := mA (l (hon 16 (by kernel_rfl)))
         refine Zcn (w1 := w') (v := .bool (T != U)) (by rfl) rfl ?_ ?_
         ·go_simp
          (try simp only [Zby])
          try rfl
         refine hK.out _ _ ⟨p, o, (by rw [ha.out]; exact Zbe 17 hb_ rfl rfl rfl), d, g, Q_HB, m, l⟩
        exact steps_nil
       rintro b a dk hall ⟨p, o, ha, d, g, Q_HB, m, l⟩
       clear j c HB
       have aN := hall 0 (by kernel_rfl)
       have aO := hall 3 (by kernel_rfl)
       have aP := hall 4 (by kernel_rfl)
       have aQ := hall 5 (by kernel_rfl)
       have aR := hall 6 (by kernel_rfl)
       have aS := hall 7 (by kernel_rfl)
       have aT := hall 8 (by kernel_rfl)
       have aU := hall 9 (by kernel_rfl)
       have al := hall 10 (by kernel_rfl)
       have au := hall 11 (by kernel_rfl)
       have av := hall 12 (by kernel_rfl)
       have aw := hall 13 (by kernel_rfl)
       have ax := hall 14 (by kernel_rfl)
       have ay := hall 15 (by kernel_rfl)
       have am := hall 16 (by kernel_rfl)
       have az := hall 17 (by kernel_rfl)
       have aA := hall 18 (by kernel_rfl)
       have aB := hall 19 (by kernel_rfl)
       subst ha
       simp only [Zc6, aN, aO, aP, aQ, aR, aS, aT, aU, al, au, av, aw, ax, ay, am, az, aA, aB, if_true, Act.put, List.setIfInBounds_toArray, List.set_cons_zero, List.set_cons_succ]
       have j := mA d
       clear d
       have c := mA g
       clear g
       have HB := mA Q_HB
       clear Q_HB
       have E := mA (m al)
       clear m
       have L := mA (l am)
       clear l hall aN aO aP aQ aR aS aT aU al au av aw ax ay am az aA aB
       try go_wp2_with (first | ((with_reducible refine Zao (N := 51) rfl ?_); (try (refine gate_guard (by rfl) ?_; dsimp only)); refine yM (Kd.int .i64) _ 2 ?hg (N := 51) ?hd (xs := ([G, s, u] : List Int)) (inner := [.int .i64 G, .int .i64 s, .int .i64 u]) (ok := fun _ => True) (okp := fun _ => True) ?hr ?hp (fun _ hk => hk) trivial (Below.refl _ _) (Nat.le_refl _) (by simp) ?_; (case hd => rfl); (case hg => rfl); (case hr => first | (go_simp; done) | (go_simp; rfl)); (case hp => exact (Reps.one (show Kd.M (Kd.int .i64) _ _ _ G [.int .i64 G] from rfl) (Reps.one (show Kd.M (Kd.int .i64) _ _ _ s [.int .i64 s] from rfl) (Reps.one (show Kd.M (Kd.int .i64) _ _ _ u [.int .i64 u] from rfl) (Reps.none _ _))))); intro dL dQ ar hb hg_ hnew_; clear hg_ hnew_; (first | rw [← bm.out] at ar | (simp only [Int.reduceToNat] at ar; rw [← bm.out] at ar)); have b5 := mA (zN (zU (zU ar (zG (rP E.out))) (zG (rP L.out))) (Zah (bW))); replace E := mA (zT (rP E.out) (zK ar) hb); replace L := mA (zT (rP L.out) (zK ar) hb); replace j := mA (blkB j.out hb); replace c := mA (blkB c.out hb); replace HB := mA (Zac (bW) hb); clear hb ar))
       go_ret
       exact ⟨_, eW, by (with_reducible repeat (first | apply zC | apply zD | apply zB)); exact zA b5.out (fun _ hk => trivial), bW⟩
end Go.Proofs.YtgindgodfcfgkaaDoor.P
end M0
