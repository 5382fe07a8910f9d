import Derived.Test.YtgindgodfcfgkaaCFnExactResidualOf12
set_option maxHeartbeats 8000000
set_option maxRecDepth 100000
section M0
namespace Go.Proofs.Ytgindgodfcfgkaa.P
open Go.RowKit Go.Proofs.Ytgindgodfcfgkaa.Sh Go.Proofs.YtgindgodfcfgkaaW.PrintWords Go.Proofs.YtgindgodfcfgkaaW.PrintLast Go.Proofs.YtgindgodfcfgkaaW.PrintMore
open Kd
attribute [local go_sem] Zcc Zcd Zck Zcl Zb2 Zb3 Zce Zcb   -- for this text's walks alone
set_option linter.unusedVariables false
set_option linter.unusedSimpArgs false
def Zc5.f (b : Int) (a : Int) (c : Int) (d : List (List Int)) (a1 : Int) : Option (Int) := if a1 = 0 then (some a) else (if a1 = a then (some 0) else (some a1))
theorem Zc5.calls (d : Int) (b : Int) (g : Int) (i : Option Addr) (j : Nat) (c : List (List Int)) (a1 : Int) (r : Int) (w : World) (k : Kd.C (Kd.slice 2 (Kd.int .i64)) w i c.length c) (l : c.length ≤ j) (h : Zc5.f d b g c a1 = some r) :
  Calls Try.prog 104 #[.agg #[.int .i64 d, .int .i64 b, .int .i64 g, .slice i c.length j], .int .i64 a1] w fun e w' => e = .returned (.int .i64 r) ∧ Below w.heap.size w w' := by
 have af := Try.underlying26
 have ad := mA k
 have ae := mA l
 clear k l
 have HB := mA (Below.refl w.heap.size w)
 unfold Zc5.f at h
 have H := h
 clear h
 by_cases c3 : a1 = 0
 ·rw [if_pos c3] at H
  have p : (a1 == 0) = true := beq_iff_eq.mpr c3
  have q : (a1 != 0) = false := bne_eq_false_iff_eq.mpr c3
  clear c3
  obtain rfl := oI H
  go_enter Try.func104, Try.ntmps104
  go_wp2_with (first | ((with_reducible refine Zap (N := 2) rfl ?_); refine boxS (N := 2) (cs := #[.int .i64 d, .int .i64 b, .int .i64 g, .slice i c.length j]) (t := 26) ?_; intro m hg w4 hbox hb; have a := mA (hbox); have n := geW (w := w) hg; have o := geW (w := w) hg; replace HB := mA (Zaf (bW) hb); clear hb hbox hg; obtain ⟨G, I, J, K⟩ := Zau a.out; obtain ⟨L, M, O, P⟩ := frz4 a.out))
  go_ret
  exact ⟨eW, bW⟩
 rw [if_neg c3] at H
 have p : (a1 == 0) = false := beq_eq_false_iff_ne.mpr c3
 have q : (a1 != 0) = true := bne_iff_ne.mpr c3
 by_cases c6 : a1 = b; rotate_left
 ·rw [if_neg c6] at H
  have s : (a1 == b) = false := beq_eq_false_iff_ne.mpr c6
  have u : (a1 != b) = true := bne_iff_ne.mpr c6
  obtain rfl := oI H
  go_enter Try.func104, Try.ntmps104
  go_wp2_with (first | ((with_reducible refine Zap (N := 2) rfl ?_); refine boxS (N := 2) (cs := #[.int .i64 d, .int .i64 b, .int .i64 g, .slice i c.length j]) (t := 26) ?_; intro m hg w9 hbox hb; have a := mA (hbox); have n := geW (w := w) hg; have o := geW (w := w) hg; replace HB := mA (Zaf (bW) hb); clear hb hbox hg; obtain ⟨v, x, y, z⟩ := Zau a.out; obtain ⟨A, B, D, E⟩ := frz4 a.out))
  go_ret
  exact ⟨eW, bW⟩
 rw [if_pos c6] at H
 have s : (a1 == b) = true := beq_iff_eq.mpr c6
 have u : (a1 != b) = false := bne_eq_false_iff_eq.mpr c6
 clear c6
 obtain rfl := oI H
 go_enter Try.func104, Try.ntmps104
 go_wp2_with (first | ((with_reducible refine Zap (N := 2) rfl ?_); refine boxS (N := 2) (cs := #[.int .i64 d, .int .i64 b, .int .i64 g, .slice i c.length j]) (t := 26) ?_; intro m hg w7 hbox hb; have a := mA (hbox); have n := geW (w := w) hg; have o := geW (w := w) hg; replace HB := mA (Zaf (bW) hb); clear hb hbox hg; obtain ⟨T, U, W, X⟩ := Zau a.out; obtain ⟨Y, aa, ab, ac⟩ := frz4 a.out))
 go_ret
 exact ⟨eW, bW⟩
def Zdi.f (a0 : Int) (a1 : Int) : Option (Bool) := if 0 ≤ (IntKind.u64.wrap (a1)) then (some ((Go.bits .and .i64 (shr .i64 a0 (IntKind.u64.wrap (a1))) 1) == 1)) else (none)
theorem Zdi.calls (a0 : Int) (a1 : Int) (r : Bool) (w : World) (h : Zdi.f a0 a1 = some r) :
  Calls Try.prog 105 #[.int .i64 a0, .int .i64 a1] w fun e w' => e = .returned (.bool r) ∧ Zas w w' := by
 unfold Zdi.f at h
 have H := h
 clear h
 obtain ⟨a, c⟩ : ∃ j_ : Int, (IntKind.u64.wrap (a1)) = j_ := ⟨_, rfl⟩
 replace H : (if 0 ≤ (a) then (some ((Go.bits .and .i64 (shr .i64 a0 (a)) 1) == 1)) else (none)) = some r := by first | (rw [c] at H; exact H) | (simp only [c] at H ⊢; exact H)
 by_cases c4 : 0 ≤ (a); rotate_left
 ·rw [if_neg c4] at H
  exact absurd H (by simp)
 rw [if_pos c4] at H
 have j := eq_true c4
 have k := dT c4
 clear c4
 obtain ⟨d, b⟩ : ∃ j_ : Int, (shr .i64 a0 (a)) = j_ := ⟨_, rfl⟩
 replace H : (some ((Go.bits .and .i64 (d) 1) == 1)) = some r := by first | (rw [b] at H; exact H) | (simp only [b] at H ⊢; exact H)
 have g : (a0 / 2 ^ min (a).toNat 64) = d := b
 have i : (a) ≤ 64 → (a0 / 2 ^ (a).toNat) = d := shr_small b
 obtain rfl := oI H
 go_enter Try.func105, Try.ntmps105
 go_wp2
 go_ret
 exact ⟨by first | rfl | (simp; done) | (simp only [← c, ← b] <;> (first | rfl | simp)) | (simp [*]; done), by repeat (first | exact Zas.refl _ | apply Zas.step)⟩
mutual
def Zax.l0 : Nat → Int → Int → Int → Int → List (List Int) → Int → List (List Int) → List Bool → Option (Int × (List (List Int)) × List Bool)
 | 0, _, _, _, _, _, _, _, _ => none
 | k + 1, x4, a, b, c, d, e, g, h => (Zb1.f a b c d).bind fun i => (if x4 < i then ((Zc5.f a b c d x4).bind fun j => (Zax.l1 k x4 j (([] : List Int)) 0 a b c d e g h)) else (some (e, g, h)))
def Zax.l1 : Nat → Int → Int → List Int → Int → Int → Int → Int → List (List Int) → Int → List (List Int) → List Bool → Option (Int × (List (List Int)) × List Bool)
 | 0, _, _, _, _, _, _, _, _, _, _, _ => none
 | k + 1, x4, x5, x6, x7, b, d, c, a, h, e, g => if x7 < b then (if 0 ≤ x5 then (if x5 < (a.length : Int) then (if 0 ≤ x7 then (if x7 < ((Zah a x5).length : Int) then ((Zc5.f b d c a (rd (Zah a x5) x7)).bind fun i => (if x6.length < 17592186044416 then (Zax.l1 k x4 x5 (x6 ++ [i]) (wrap64 (x7 + 1)) b d c a h e g) else (none))) else (none)) else (none)) else (none)) else (none)) else (if e.length < 5864062014805 then ((Zdi.f c x5).bind fun j => (if g.length < 140737488355328 then (Zax.l0 k (wrap64 (x4 + 1)) b d c a h (e ++ [x6]) (g ++ [j])) else (none))) else (none))
end
def Zax.f (k : Nat) (a : Int) (b : Int) (c : Int) (d : List (List Int)) : Option (Int × (List (List Int)) × List Bool) := Zax.l0 k 0 a b c d a ([] : List (List Int)) ([] : List Bool)
def Zax.T10 : Bool × List (List Nat × List Nat) := (true, [([], []), ([], []), ([], []), ([2], [2]), ([], []), ([3, 4], [3, 4]), ([5], [5]), ([], []), ([6, 7], [6, 7]), ([8], [8]), ([1, 9], [1, 9]), ([10], [10]), ([0, 11, 10], [0, 11]), ([12, 12, 0, 1, 2, 3, 4, 5, 6, 7, 8, 9, 10, 11, 12], [0, 12])])
def Zax.B10 : List Nat := [0, 0, 0, 4, 0, 28, 60, 0, 252, 508, 1022, 2046, 4095, 8191]
theorem Zax.tab10 : rtab .any (opsOf Try.f83 10) = Zax.T10 := by kernel_rfl
theorem Zax.bits10 : Zda Zax.T10.2 Zax.B10 = true := by kernel_rfl
def Zax.T12 : Bool × List (List Nat × List Nat) := (true, [([], []), ([0], [0]), ([], []), ([2], [2]), ([], []), ([3, 4], [3, 4]), ([5], [5]), ([1, 6, 5], [1, 6]), ([0, 1, 2, 3, 4, 5, 6, 7], []), ([8, 7, 7, 0, 1, 2, 3, 4, 5, 6, 7], [7, 8])])
def Zax.B12 : List Nat := [0, 1, 0, 4, 0, 28, 60, 127, 255, 511]
theorem Zax.tab12 : rtab .any (opsOf Try.f83 12) = Zax.T12 := by kernel_rfl
theorem Zax.bits12 : Zda Zax.T12.2 Zax.B12 = true := by kernel_rfl
theorem Zax.calls (k : Nat) (m : Int) (A : Int) (z : Int) (M : Option Addr) (G : Nat) (r : List (List Int)) (r1 : Int) (r2 : List (List Int)) (r3 : List Bool) (w : World) (a6 : Kd.C (Kd.slice 2 (Kd.int .i64)) w M r.length r) (a7 : r.length ≤ G) (h : Zax.f k m A z r = some (r1, r2, r3)) :
  Calls Try.prog 83 #[.agg #[.int .i64 m, .int .i64 A, .int .i64 z, .slice M r.length G]] w fun e w' => ∃ b6 b7 : Value, e = .returned (.agg #[.int .i64 r1, b6, b7]) ∧ Kd.S (Kd.slice 2 (Kd.int .i64)) 33 w' w.heap.size (fun _ => True) b6 r2 ∧ Kd.R Kd.bool 4 w' w.heap.size (fun _ => True) b7 r3 ∧ Below w.heap.size w w' := by
 have d4 := Try.underlying26
 have d5 := Try.underlying95
 have ai := mA a6
 have ak := mA a7
 clear a6 a7
 have HB := mA (Below.refl w.heap.size w)
 unfold Zax.f at h
 have H := h
 clear h
 have H' := mA H
 clear H
 go_enter Try.func83, Try.ntmps83
 go_wp2_with (first | ((with_reducible refine Zap (N := 1) rfl ?_); refine boxS (N := 1) (cs := #[.int .i64 m, .int .i64 A, .int .i64 z, .slice M r.length G]) (t := 26) ?_; intro q hg w2 hbox hb; have a := mA (hbox); have dx := geW (w := w) hg; have dy := geW (w := w) hg; replace HB := mA (Zaf (bW) hb); clear hb hbox hg) | ((with_reducible refine Zap (N := 2) rfl ?_); refine boxS (N := 2) (cs := #[.int .i64 0, .slice none 0 0, .slice none 0 0]) (t := 95) ?_; intro L hg w3 hbox hb; have l := mA (hbox); have dz := geW (w := w) hg; have dA := geW (w := w) hg; replace HB := mA (Zaf (bW) hb); have Y := mA (neB hg a); have aa := mA (neC hg a); replace a := mA (blkB a.out hb); clear hb hbox hg; have d6 := Y.out; have d7 := aa.out; obtain ⟨aE, aG, aH, aI⟩ := Zau a.out; obtain ⟨aJ, aK, aM, aN⟩ := frz4 a.out) | ((with_reducible refine Zap (N := 3) rfl ?_); refine boxS (N := 3) (cs := #[.int .i64 0, .slice none 0 0, .slice none 0 0]) (t := 95) ?_; intro x hg w6 hbox hb; have c := mA (hbox); have dB := geW (w := w) hg; have dC := geW (w := w) hg; replace HB := mA (Zaf (bW) hb); have B := mA (neB hg a); have U := mA (neC hg a); replace a := mA (blkB a.out hb); have E := mA (neB hg l); have ab := mA (neC hg l); replace l := mA (blkB l.out hb); clear hb hbox hg; have d8 := U.out; have d9 := B.out; have ea := ab.out; have eb := E.out; obtain ⟨aQ, aR, aT⟩ := cells3 c.out; obtain ⟨aU, aV, aW⟩ := frz3 c.out))
 go_loopg [4] k (fun kq v4 w' => ∃ (ah : Int) (s : List (List Int)) (u : List Bool) (D : Value) (y : Value), v4 = .int .i64 ah ∧ Zad (Zax.l0 kq ah m A z r m s u = some (r1, r2, r3)) ∧ Zad (kq ≤ k) ∧ Zad (Kd.S (Kd.slice 2 (Kd.int .i64)) 33 w' w.heap.size (fun _ => True) D s) ∧ Zad (Kd.R Kd.bool 4 w' w.heap.size (fun _ => True) y u) ∧ Zad (w'.heap[q]? = some (.cells #[.int .i64 m, .int .i64 A, .int .i64 z, (.slice M r.length G)] 26 (0, 0))) ∧ Zad (w'.heap[L]? = some (.cells #[.int .i64 0, (.slice none 0 0), (.slice none 0 0)] 95 (0, 0))) ∧ Zad (w'.heap[x]? = some (.cells #[.int .i64 m, D, y] 95 (0, 0))) ∧ Zad (Below w.heap.size w w'))
 case atStart => exact ⟨(0), (([] : List (List Int))), (([] : List Bool)), (.slice none 0 0), (.slice none 0 0), (eW), H', ⟨Nat.le_refl _⟩, ⟨by first | exact xC _ _ _ _ _ | exact xE _ _ _ _ _ | exact xF _ _ _ _ _ | exact xB _ _ _ _ _ | exact yT _ _ _ _ _⟩, ⟨by first | exact yT _ _ _ _ _ | exact xE _ _ _ _ _ | exact xF _ _ _ _ _ | exact xB _ _ _ _ _ | exact xC _ _ _ _ _⟩, ⟨by (with_reducible repeat (first | refine Zac ?_ _ | refine Zab ?_ | refine Zaa ?_ _)); refine Zak ?_ B.out _; (with_reducible repeat (first | refine Zac ?_ _ | refine Zab ?_ | refine Zaa ?_ _)); refine Zak ?_ B.out _; (with_reducible repeat (first | refine Zac ?_ _ | refine Zab ?_ | refine Zaa ?_ _)); refine Zak ?_ B.out _; exact bP a.out⟩, ⟨by (with_reducible repeat (first | refine Zac ?_ _ | refine Zab ?_ | refine Zaa ?_ _)); refine Zak ?_ E.out _; (with_reducible repeat (first | refine Zac ?_ _ | refine Zab ?_ | refine Zaa ?_ _)); refine Zak ?_ E.out _; (with_reducible repeat (first | refine Zac ?_ _ | refine Zab ?_ | refine Zaa ?_ _)); refine Zak ?_ E.out _; exact bP l.out⟩, ⟨by (with_reducible repeat (first | refine Zac ?_ _ | refine Zab ?_ | refine Zaa ?_ _)); refine Zao (cs := #[.int .i64 m, .slice none 0 0, .slice none 0 0]) ?_ 2 _ rfl; (with_reducible repeat (first | refine Zac ?_ _ | refine Zab ?_ | refine Zaa ?_ _)); refine Zao (cs := #[.int .i64 m, .slice none 0 0, .slice none 0 0]) ?_ 1 _ rfl; (with_reducible repeat (first | refine Zac ?_ _ | refine Zab ?_ | refine Zaa ?_ _)); refine Zao (cs := #[.int .i64 0, .slice none 0 0, .slice none 0 0]) ?_ 0 _ rfl; exact bP c.out⟩, ⟨bW⟩⟩
 case round =>
  clear H'
  try clear p2
  try clear c4
  try clear c7
  try clear c8
  try clear aE
  try clear aG
  try clear aH
  try clear aI
  try clear aQ
  try clear aR
  try clear aT
  try clear aJ
  try clear aK
  try clear aM
  try clear aN
  try clear aU
  try clear aV
  try clear aW
  obtain ⟨ah, s, u, D, y, rfl, HA, a8, j, d, a, l, c, HB⟩ := hrel
  cases gk with
  | zero => exact absurd HA.out (by simp [Zax.l0])
  | succ k1 =>
   have H := HA.out
   clear HA
   simp only [Zax.l0] at H
   replace H := bE H
   obtain ⟨aX, bG, H⟩ := H
   have b8 := mA bG
   clear bG
   by_cases am : ah < aX; rotate_left
   ·rw [if_neg am] at H
    have a9 := dF am
    clear am
    simp only [Option.some.injEq, Prod.mk.injEq] at H
    obtain ⟨rfl, rfl, rfl⟩ := H
    have dD := Y.out
    have dE := aa.out
    have dG := B.out
    have dH := U.out
    have ci : wr.cell? ⟨q, 0, none⟩ = some (.int .i64 m) := bc a 0
    have cj : wr.cell? ⟨q, 1, none⟩ = some (.int .i64 A) := bc a 1
    have ck : wr.cell? ⟨q, 2, none⟩ = some (.int .i64 z) := bc a 2
    have cm : wr.cell? ⟨q, 3, none⟩ = some (.slice M r.length G) := bc a 3
    have cn := Zae a.out 0
    have co := Zae a.out 1
    have cp := Zae a.out 2
    have cq := Zae a.out 3
    go_wp2_with (first | ((with_reducible refine Zar (f := 46) rfl ?_); refine Za2 (some 13) Try.func46 #[.agg #[.int .i64 m, .int .i64 A, .int .i64 z, .slice M r.length G]] ?_; (with_reducible refine (Zb1.calls m A z _ _ r aX _ ?side1 ?side2 b8.out).mono ?_); (case side1 => exact cP (zL ai.out HB.out)); (case side2 => exact ak.out); rintro e eh ⟨rfl, hb⟩; refine ⟨_, rfl, ?_⟩; replace j := mA (zS (sP j.out) hb); replace d := mA (zM (rP d.out) hb); replace a := mA (blkB a.out hb); replace l := mA (blkB l.out hb); replace c := mA (blkB c.out hb); replace HB := mA (Zaf (bW) hb); (try clear hb); (try clear hb2); (try clear hk); (try clear hi); have dI := ab.out; have dJ := E.out; obtain ⟨cr, ct, cu⟩ := cells3 c.out; obtain ⟨cv, cw, cx⟩ := frz3 c.out; obtain ⟨cy, cz, cA⟩ := cells3 l.out; obtain ⟨cC, cD, cE⟩ := frz3 l.out; obtain ⟨au, av, cb⟩ := yD j.out; subst cb; obtain ⟨aY, aZ, cc⟩ := zP d.out; subst cc))
    refine bodyPost_ret (results_cell_row rfl _ _ L 95 #[.int .i64 m, .slice au s.length av, .slice aY u.length aZ] (0, 0) _ rfl (by (with_reducible repeat (first | refine Zac ?_ _ | refine Zab ?_ | refine Zaa ?_ _)); refine Zao (cs := #[.int .i64 m, .slice au s.length av, .slice none 0 0]) ?_ 2 _ rfl; (with_reducible repeat (first | refine Zac ?_ _ | refine Zab ?_ | refine Zaa ?_ _)); refine Zao (cs := #[.int .i64 m, .slice none 0 0, .slice none 0 0]) ?_ 1 _ rfl; (with_reducible repeat (first | refine Zac ?_ _ | refine Zab ?_ | refine Zaa ?_ _)); refine Zao (cs := #[.int .i64 0, .slice none 0 0, .slice none 0 0]) ?_ 0 _ rfl; exact bP l.out) Try.underlying95 rfl (by kernel_rfl)) rfl ?_
    exact ⟨_, _, eW, by (with_reducible repeat (first | apply zI | apply zJ | apply zG)); exact zF (zB (p := ⟨L, 2, none⟩) (zB (p := ⟨L, 1, none⟩) (zB (p := ⟨L, 0, none⟩) (zR j.out l.out (by decide)) (fun _ hk => hk.2) (.int .i64 m)) (fun _ hk => hk.2) (.slice au s.length av)) (fun _ hk => hk.2) (.slice aY u.length aZ)) (fun _ hk => trivial), by (with_reducible repeat (first | apply zD | apply zE | apply zA)); exact zC (zH (p := ⟨L, 2, none⟩) (zH (p := ⟨L, 1, none⟩) (zH (p := ⟨L, 0, none⟩) (zX d.out l.out (by decide)) (fun _ hk => hk.2) (.int .i64 m)) (fun _ hk => hk.2) (.slice au s.length av)) (fun _ hk => hk.2) (.slice aY u.length aZ)) (fun _ hk => trivial), bW⟩
   rw [if_pos am] at H
   have a9 := dT am
   clear am
   replace H := bE H
   obtain ⟨I, bH, H⟩ := H
   have dm := mA bH
   clear bH
   obtain ⟨bI, aw⟩ : ∃ y_ : List Int, y_ = (([] : List Int)) := ⟨_, rfl⟩
   replace H : (Zax.l1 k1 ah I bI 0 m A z r m s u) = some (r1, r2, r3) := by rw [aw]; with_reducible exact H
   have ba := mA aw
   clear aw
   have H' := mA H
   clear H
   have dK := Y.out
   have dL := aa.out
   have dM := B.out
   have dN := U.out
   have bn : wr.cell? ⟨q, 0, none⟩ = some (.int .i64 m) := bc a 0
   have bo : wr.cell? ⟨q, 1, none⟩ = some (.int .i64 A) := bc a 1
   have bp : wr.cell? ⟨q, 2, none⟩ = some (.int .i64 z) := bc a 2
   have bq : wr.cell? ⟨q, 3, none⟩ = some (.slice M r.length G) := bc a 3
   have br := Zae a.out 0
   have bs := Zae a.out 1
   have bu := Zae a.out 2
   have bv := Zae a.out 3
   go_wp2_with (first | ((with_reducible refine Zar (f := 46) rfl ?_); refine Za2 (some 13) Try.func46 #[.agg #[.int .i64 m, .int .i64 A, .int .i64 z, .slice M r.length G]] ?_; (with_reducible refine (Zb1.calls m A z _ _ r aX _ ?side1 ?side2 b8.out).mono ?_); (case side1 => exact cP (zL ai.out HB.out)); (case side2 => exact ak.out); rintro e ei ⟨rfl, hb⟩; refine ⟨_, rfl, ?_⟩; replace j := mA (zS (sP j.out) hb); replace d := mA (zM (rP d.out) hb); replace a := mA (blkB a.out hb); replace l := mA (blkB l.out hb); replace c := mA (blkB c.out hb); replace HB := mA (Zaf (bW) hb); (try clear hb); (try clear hb2); (try clear hk); (try clear hi); obtain ⟨bw, bx, bz, bA⟩ := Zau a.out; obtain ⟨bB, bC, bD, bF⟩ := frz4 a.out) | ((with_reducible refine Zar (f := 104) rfl ?_); refine Za2 (some 19) Try.func104 #[.agg #[.int .i64 m, .int .i64 A, .int .i64 z, .slice M r.length G], .int .i64 ah] ?_; (with_reducible refine (Zc5.calls m A z _ _ r ah I _ ?side1 ?side2 dm.out).mono ?_); (case side1 => exact cP (zL ai.out HB.out)); (case side2 => exact ak.out); rintro e ej ⟨rfl, hb⟩; refine ⟨_, rfl, ?_⟩; replace j := mA (zS (sP j.out) hb); replace d := mA (zM (rP d.out) hb); replace a := mA (blkB a.out hb); replace l := mA (blkB l.out hb); replace c := mA (blkB c.out hb); replace HB := mA (Zaf (bW) hb); (try clear hb); (try clear hb2); (try clear hk); (try clear hi)) | ((with_reducible refine Zap (N := 20) rfl ?_); refine yS (Kd.int .i64) _ 2 ?hg (N := 20) ?hd (xs := ([] : List Int)) (inner := []) (ok := fun _ => True) (okp := fun _ => True) ?hr ?hp (fun _ hk => hk) trivial (Below.refl _ _) (Nat.le_refl _) (by simp) ?_; (case hd => rfl); (case hg => rfl); (case hr => first | (go_simp; done) | (go_simp; rfl)); (case hp => exact (Reps.none _ _)); intro ec ek aj hb hg_ hnew_; clear hg_ hnew_; (first | rw [← ba.out] at aj | (simp only [Int.reduceToNat] at aj; rw [← ba.out] at aj)); replace j := mA (yK (sP j.out) (zT aj) hb); replace d := mA (zM (rP d.out) hb); have bX := mA (zV aj (Zan (bW))); replace a := mA (blkB a.out hb); replace l := mA (blkB l.out hb); replace c := mA (blkB c.out hb); replace HB := mA (Zaf (bW) hb); clear hb aj))
   go_loopg [6, 7] k1 (fun kq v6 v7 w' => ∃ (ac : List Int) (W : Int), v7 = .int .i64 W ∧ Zad (Zax.l1 kq ah I ac W m A z r m s u = some (r1, r2, r3)) ∧ Zad (kq ≤ k1) ∧ Zad (Kd.R (Kd.int .i64) 2 w' w.heap.size (fun _ => True) v6 ac) ∧ Zad (Kd.S (Kd.slice 2 (Kd.int .i64)) 33 w' w.heap.size (fun k_ => some k_ ≠ (v6 : Value).ownBlock) D s) ∧ Zad (Kd.R Kd.bool 4 w' w.heap.size (fun _ => True) y u) ∧ Zad (w'.heap[q]? = some (.cells #[.int .i64 m, .int .i64 A, .int .i64 z, (.slice M r.length G)] 26 (0, 0))) ∧ Zad (w'.heap[L]? = some (.cells #[.int .i64 0, (.slice none 0 0), (.slice none 0 0)] 95 (0, 0))) ∧ Zad (w'.heap[x]? = some (.cells #[.int .i64 m, D, y] 95 (0, 0))) ∧ Zad (Below w.heap.size w w'))
   case atStart => exact ⟨(bI), (0), (eW), H', ⟨Nat.le_refl _⟩, ⟨rP bX.out⟩, ⟨by (with_reducible repeat (first | apply zI | apply zJ | apply zG)); exact zF j.out (fun _ hk => hk.2)⟩, ⟨rP d.out⟩, ⟨bP a.out⟩, ⟨bP l.out⟩, ⟨bP c.out⟩, ⟨bW⟩⟩
   case round =>
    clear H'
    try clear c1
    try clear p2
    try clear c4
    try clear c7
    try clear c8
    try clear c10
    try clear am
    try clear a9
    try clear c13
    try clear c14
    try clear bn
    try clear bo
    try clear bp
    try clear bq
    try clear bw
    try clear bx
    try clear bz
    try clear bA
    try clear aE
    try clear aG
    try clear aH
    try clear aI
    try clear aQ
    try clear aR
    try clear aT
    try clear br
    try clear bs
    try clear bu
    try clear bv
    try clear bB
    try clear bC
    try clear bD
    try clear bF
    try clear aJ
    try clear aK
    try clear aM
    try clear aN
    try clear aU
    try clear aV
    try clear aW
    try clear p2
    obtain ⟨ac, W, rfl, HA, bb, O, j, d, a, l, c, HB⟩ := hrel
    cases gk with
    | zero => exact absurd HA.out (by simp [Zax.l1])
    | succ k2 =>
     have H := HA.out
     clear HA
     simp only [Zax.l1] at H
     by_cases ao : W < m
     ·rw [if_pos ao] at H
      have bY := dT ao
      clear ao
      by_cases bd : 0 ≤ I; rotate_left
      ·rw [if_neg bd] at H
       exact absurd H (by simp)
      rw [if_pos bd] at H
      have dO := dT bd
      clear bd
      by_cases bf : I < (r.length : Int); rotate_left
      ·rw [if_neg bf] at H
       exact absurd H (by simp)
      rw [if_pos bf] at H
      have dP := dT bf
      clear bf
      by_cases bg : 0 ≤ W; rotate_left
      ·rw [if_neg bg] at H
       exact absurd H (by simp)
      rw [if_pos bg] at H
      have dQ := dT bg
      clear bg
      by_cases bh : W < ((Zah r I).length : Int); rotate_left
      ·rw [if_neg bh] at H
       exact absurd H (by simp)
      rw [if_pos bh] at H
      have dR := dT bh
      clear bh
      replace H := bE H
      obtain ⟨ax, bJ, H⟩ := H
      have dn := mA bJ
      clear bJ
      by_cases bi : ac.length < 17592186044416; rotate_left
      ·rw [if_neg bi] at H
       exact absurd H (by simp)
      rw [if_pos bi] at H
      have bZ := mA bi
      clear bi
      obtain ⟨cd, ay⟩ : ∃ y_ : List Int, y_ = (ac ++ [ax]) := ⟨_, rfl⟩
      rw [← ay] at H
      have b0 := mA ay
      clear ay
      have H' := mA H
      clear H
      have dS := Y.out
      have dU := aa.out
      have dV := B.out
      have dW := U.out
      have cF : wr.cell? ⟨q, 0, none⟩ = some (.int .i64 m) := bc a 0
      have cG : wr.cell? ⟨q, 1, none⟩ = some (.int .i64 A) := bc a 1
      have cH : wr.cell? ⟨q, 2, none⟩ = some (.int .i64 z) := bc a 2
      have cI : wr.cell? ⟨q, 3, none⟩ = some (.slice M r.length G) := bc a 3
      have cJ := Zae a.out 0
      have cK := Zae a.out 1
      have cL := Zae a.out 2
      have cM := Zae a.out 3
      try go_wp2
      replace O := mA (zA O.out)
      replace j := mA (zG j.out)
      replace d := mA (zA d.out)
      replace a := mA (Zab a.out)
      replace l := mA (Zab l.out)
      replace c := mA (Zab c.out)
      replace HB := mA (Za3 HB.out)
      have a0 : 0 ≤ (I : Int) := ofD
      have a1 : I < (r.length : Int) := ofD
      obtain ⟨al, dp, bK, ce, ad, ap, aq⟩ := Zca ai.out I a0 a1
      have ae := ad
      cases ce
      replace ad := (HB.out.cell (wB w ad)).trans ad
      have ar := mA aq
      have cN := mA ap
      clear aq ap
      replace a0 := eq_true a0
      replace a1 := eq_true a1
      have a2 : 0 ≤ (W : Int) := ofD
      have a3 : W < ((Zah r I).length : Int) := ofD
      obtain ⟨bj, cf, af⟩ := zO ar.out W a2 a3
      have ag := af
      cases cf
      replace af := (HB.out.cell (wB w af)).trans af
      replace a2 := eq_true a2
      replace a3 := eq_true a3
      refine start_ (n := 14) (S := fun w' => w'.cell? ⟨q, 0, none⟩ = some (.int .i64 m) ∧ w'.cell? ⟨q, 1, none⟩ = some (.int .i64 A) ∧ w'.cell? ⟨q, 2, none⟩ = some (.int .i64 z) ∧ w'.cell? ⟨q, 3, none⟩ = some (.slice (some al) r.length G) ∧ w'.cell? (al.add (I).toNat) = some (.slice (some bj) (Zah r I).length bK) ∧ w'.cell? (bj.add (W).toNat) = some (.int .i64 (rd (Zah r I) W))) (ds := []) #[false, false, false, false, false, false, false, false, false, false, false, false, false, false] (by kernel_rfl) rfl rfl ⟨bc a 0, bc a 1, bc a 2, bc a 3, (cB HB ae :), (cB HB ag :)⟩ (fun hHeld => ?_); refine Zc0 Zax.tab10 Zax.bits10 (fun HT_ HW_ => ?_)
      generalize wr.drew = w31 at O j d a l c HB ar ad af hHeld ⊢
      refine Zav (i := 0) (N := some 27) (Zaw HT_.out (by kernel_rfl)) ?_
      refine Zav (i := 2) (N := some 29) (Zaw HT_.out (by kernel_rfl)) ?_
      refine Zav (i := 4) (N := some 31) (Zaw HT_.out (by kernel_rfl)) ?_
      refine Zav (i := 7) (N := some 34) (Zaw HT_.out (by kernel_rfl)) ?_
      refine Zbt (i := 1) (N := some 28) (Zbb HT_.out HW_.out (by kernel_rfl)) hHeld ?_
      refine Zbt (i := 3) (N := some 30) (Zbb HT_.out HW_.out (by kernel_rfl)) hHeld ?_
      refine Zav (i := 5) (N := some 32) (Zaw HT_.out (by kernel_rfl)) ?_
      refine Zbt (i := 6) (N := some 33) (Zbb HT_.out HW_.out (by kernel_rfl)) hHeld ?_
      refine Zav (i := 8) (N := some 35) (Zaw HT_.out (by kernel_rfl)) ?_
      refine Zbt (i := 9) (N := some 36) (Zbb HT_.out HW_.out (by kernel_rfl)) hHeld ?_
      refine one_ (i := 10) (N := some 37) #[true, true, true, true, true, true, true, true, true, true, true, false, false, false] rfl rfl (Zb4 HT_.out (by kernel_rfl)) (by decide) (fun K hK => ?_)
      refine goes_ Try.func104 (by kernel_rfl) rfl #[.agg #[.int .i64 m, .int .i64 A, .int .i64 z, .slice (some al) r.length G], .int .i64 (rd (Zah r I) W)] (by rfl) rfl rfl (by (try simp only [List.map_toArray, List.map_cons, List.map_nil]); first | done | rfl | (simp only [List.length_drop, List.length_take]; rfl)) ?_
      with_reducible refine (Zc5.calls m A z _ _ r (rd (Zah r I) W) ax _ ?side1 ?side2 dn.out).mono ?_
      (case side1 => exact cP (zL ai.out HB.out))
      (case side2 => exact ak.out)
      rintro e el ⟨rfl, hb⟩
      refine ⟨_, rfl, ?_⟩
      replace O := mA (zM (rP O.out) hb)
      replace j := mA (zS (sP j.out) hb)
      replace d := mA (zM (rP d.out) hb)
      replace a := mA (blkB a.out hb)
      replace l := mA (blkB l.out hb)
      replace c := mA (blkB c.out hb)
      replace HB := mA (Zaf (bW) hb)
      (try clear hb)
      (try clear hb2)
      (try clear hk)
      (try clear hi)
      refine hK.out _ _ ⟨bc a 0, bc a 1, bc a 2, bc a 3, (cB HB ae :), (cB HB ag :)⟩ (fun hHeld => ?_)
      clear hK K
      refine putS 37 ?_
      refine one_ (i := 11) (N := some 38) #[true, true, true, true, true, true, true, true, true, true, true, true, false, false] rfl rfl (Zb4 HT_.out (by kernel_rfl)) (by decide) (fun K hK => ?_)
      refine value_ (w1 := ?_) (v := ?_) (by rfl) rfl ?_ ?_
      rotate_left 2
      ·go_simp
       constructor
       ·rfl
       ·rfl
      refine hK.out _ _ ⟨(Zby (Zaa a.out _) 0).trans rfl, (Zby (Zaa a.out _) 1).trans rfl, (Zby (Zaa a.out _) 2).trans rfl, (Zby (Zaa a.out _) 3).trans rfl, (World.cell?_alloc_lt _ _ _ (World.block_lt_of_cell? _ _ ((cB HB ae :)))).trans ((cB HB ae :)), (World.cell?_alloc_lt _ _ _ (World.block_lt_of_cell? _ _ ((cB HB ag :)))).trans ((cB HB ag :))⟩ (fun hHeld => ?_)
      clear hK K
      refine putS 38 ?_
      refine one_ (i := 12) (N := some 39) #[true, true, true, true, true, true, true, true, true, true, true, true, true, false] rfl rfl (Zb4 HT_.out (by kernel_rfl)) (by decide) (fun K hK => ?_)
      refine xT (Kd.int .i64) (w0 := w) w.heap.size (by rfl) (.tmp 27) (.tmp 38) 33 2 (.int .i64 0) 8 rfl Try.underlying33 info2 rfl (by decide) (by omega) u6 ac ax [.int .i64 ax] (fun _ => True) (fun _ => False) rfl rfl ?aP (fun _ hk => hk.elim) ?aF ?aO ?aB ?aS ?aL ?_
      (case aP => exact rfl)
      (case aB => exact (bW))
      (case aF => exact (fun _ _ => trivial))
      (case aO => exact (rP O.out))
      (case aS => exact (Zan (bW)))
      (case aL => have := bZ.out; omega)
      intro ed em ho hb hg hat
      rw [← b0.out] at ho
      replace j := mA (xD (ok := (fun _ => True)) (by (with_reducible repeat (first | apply zI | apply zJ | apply zG)); exact zF j.out (fun _ hk => ⟨trivial, hk⟩)) hg hat)
      replace d := mA (yH (rP d.out) (yV (rP O.out)) (by decide) hg)
      replace a := mA (Zaq (g := q) (o := .cells #[.int .i64 m, .int .i64 A, .int .i64 z, .slice (some al) r.length G] 26 (0, 0)) (bP a.out) hg (zQ O.out a.out (by decide)))
      replace l := mA (Zaq (g := L) (o := .cells #[.int .i64 0, .slice none 0 0, .slice none 0 0] 95 (0, 0)) (bP l.out) hg (zQ O.out l.out (by decide)))
      replace c := mA (Zaq (g := x) (o := .cells #[.int .i64 m, D, y] 95 (0, 0)) (bP c.out) hg (zQ O.out c.out (by decide)))
      replace HB := mA (hb)
      have b1 := mA (ho)
      clear O ho hb hg hat
      refine hK.out _ _ ⟨bc a 0, bc a 1, bc a 2, bc a 3, (cB HB ae :), (cB HB ag :)⟩ (fun hHeld => ?_)
      clear hK K
      refine putS 39 ?_
      refine Zav (i := 13) (N := some 6) (Zaw HT_.out (by kernel_rfl)) ?_
      refine done_ (done_of HT_.out (by kernel_rfl)) ?_
      try go_wp2
      go_roundg k2
      case measure => have := a8.out; have := bb.out; omega
      case rel => exact ⟨(cd), (wrap64 (W + 1)), (eW), H', ⟨by have := a8.out; have := bb.out; omega⟩, ⟨rP b1.out⟩, ⟨by (with_reducible repeat (first | apply zI | apply zJ | apply zG)); exact zF j.out (fun _ hk => hk.2)⟩, ⟨rP d.out⟩, ⟨bP a.out⟩, ⟨bP l.out⟩, ⟨bP c.out⟩, ⟨bW⟩⟩
     rw [if_neg ao] at H
     have bY := dF ao
     clear ao
     by_cases bk : s.length < 5864062014805; rotate_left
     ·rw [if_neg bk] at H
      exact absurd H (by simp)
     rw [if_pos bk] at H
     have b2 := mA bk
     clear bk
     obtain ⟨J, az⟩ : ∃ y_ : List (List Int), y_ = (s ++ [ac]) := ⟨_, rfl⟩
     rw [← az] at H
     have b3 := mA az
     clear az
     replace H := bE H
     obtain ⟨aA, bL, H⟩ := H
     have dq := mA bL
     clear bL
     by_cases bl : u.length < 140737488355328; rotate_left
     ·rw [if_neg bl] at H
      exact absurd H (by simp)
     rw [if_pos bl] at H
     have b4 := mA bl
     clear bl
     obtain ⟨aC, aD⟩ : ∃ y_ : List Bool, y_ = (u ++ [aA]) := ⟨_, rfl⟩
     rw [← aD] at H
     have b5 := mA aD
     clear aD
     have H' := mA H
     clear H
     have dX := Y.out
     have dY := aa.out
     have dZ := B.out
     have d0 := U.out
     have cO : wr.cell? ⟨q, 0, none⟩ = some (.int .i64 m) := bc a 0
     have cQ : wr.cell? ⟨q, 1, none⟩ = some (.int .i64 A) := bc a 1
     have cR : wr.cell? ⟨q, 2, none⟩ = some (.int .i64 z) := bc a 2
     have cS : wr.cell? ⟨q, 3, none⟩ = some (.slice M r.length G) := bc a 3
     have cT := Zae a.out 0
     have cU := Zae a.out 1
     have cV := Zae a.out 2
     have cW := Zae a.out 3
     have d1 := ab.out
     have d2 := E.out
     have cX : wr.cell? ⟨x, 0, none⟩ = some (.int .i64 m) := bc c 0
     have cY : wr.cell? ⟨x, 1, none⟩ = some (D) := bc c 1
     have cZ : wr.cell? ⟨x, 2, none⟩ = some (y) := bc c 2
     have c0 := Zae c.out 0
     have da := Zae c.out 1
     have db := Zae c.out 2
     obtain ⟨bM, bN, cg⟩ := zP O.out
     subst cg
     try go_wp2_with (first | ((with_reducible refine Zbp (b := .append) (xs := #[.tmp 41, .tmp 43]) rfl ?_); at_builtin; refine Kd.S_append (Kd.slice 2 (Kd.int .i64)) (w0 := w) w.heap.size rfl (.tmp 41) (.tmp 43) 22 33 (.slice none 0 0) 24 rfl Try.underlying22 info33 rfl (by decide) (by omega) D s ac [.slice bM ac.length bN] (fun _ => True) (fun k_ => some k_ = (.slice bM ac.length bN : Value).ownBlock) rfl rfl ?aP (fun k_ hk_ => ((zC (ok' := fun k_ => ((fun _ => True)) k_ ∧ some k_ ≠ (D : Value).ownBlock) (xJ (O.out) (yJ j.out) (by decide)) (fun k_ hk => ⟨trivial, hk.2⟩))).1 k_ hk_.symm) ?aF ?aO ?aB ?aS ?aL ?_; (case aP => exact Kd.M_row (zC (xL rfl (zC (ok' := fun k_ => ((fun _ => True)) k_ ∧ some k_ ≠ (D : Value).ownBlock) (xJ (O.out) (yJ j.out) (by decide)) (fun k_ hk => ⟨trivial, hk.2⟩))) (fun _ h_ => h_))); (case aB => exact (bW)); (case aF => exact (fun _ _ => trivial)); (case aO => exact (by (with_reducible repeat (first | apply zI | apply zJ | apply zG)); exact zF j.out (fun k_ hk => ⟨trivial, fun e_ => hk e_⟩))); (case aS => exact (Zan (bW))); (case aL => have := b2.out; omega); intro ee an ho hb hg hat; rw [← b3.out] at ho; replace d := mA (yH (rP d.out) (yJ (sP j.out)) (by decide) hg); replace a := mA (Zaq (g := q) (o := .cells #[.int .i64 m, .int .i64 A, .int .i64 z, .slice M r.length G] 26 (0, 0)) (bP a.out) hg (yU j.out a.out (by decide))); replace l := mA (Zaq (g := L) (o := .cells #[.int .i64 0, .slice none 0 0, .slice none 0 0] 95 (0, 0)) (bP l.out) hg (yU j.out l.out (by decide))); replace c := mA (Zaq (g := x) (o := .cells #[.int .i64 m, D, y] 95 (0, 0)) (bP c.out) hg (yU j.out c.out (by decide))); replace HB := mA (hb); have X := mA (ho); clear j O ho hb hg hat; obtain ⟨P, T, ch⟩ := yD X.out; subst ch; obtain ⟨dc, dd, de⟩ := cells3 c.out; obtain ⟨df, dg, dh⟩ := frz3 c.out))
     have bO : Zad (Kd.R Kd.bool 4 (an.setCell ⟨x, 1, none⟩ (.slice P J.length T)) w.heap.size (fun _ => True) y u) := ⟨by (with_reducible repeat (first | apply zD | apply zE | apply zA)); exact zC (zH (p := ⟨x, 1, none⟩) (zX d.out c.out (by decide)) (fun _ hk => hk.2) (.slice P J.length T)) (fun _ hk => trivial)⟩
     have bQ : Zad (Kd.S (Kd.slice 2 (Kd.int .i64)) 33 (an.setCell ⟨x, 1, none⟩ (.slice P J.length T)) w.heap.size (fun _ => True) (.slice P J.length T) J) := ⟨by (with_reducible repeat (first | apply zI | apply zJ | apply zG)); exact zF (zB (p := ⟨x, 1, none⟩) (zR X.out c.out (by decide)) (fun _ hk => hk.2) (.slice P J.length T)) (fun _ hk => trivial)⟩
     have bR : Zad ((an.setCell ⟨x, 1, none⟩ (.slice P J.length T)).heap[q]? = some (.cells #[.int .i64 m, .int .i64 A, .int .i64 z, .slice M r.length G] 26 (0, 0))) := ⟨by (with_reducible repeat (first | refine Zac ?_ _ | refine Zab ?_ | refine Zaa ?_ _)); refine Zak ?_ B.out _; exact bP a.out⟩
     have bS : Zad ((an.setCell ⟨x, 1, none⟩ (.slice P J.length T)).heap[L]? = some (.cells #[.int .i64 0, .slice none 0 0, .slice none 0 0] 95 (0, 0))) := ⟨by (with_reducible repeat (first | refine Zac ?_ _ | refine Zab ?_ | refine Zaa ?_ _)); refine Zak ?_ E.out _; exact bP l.out⟩
     have bT : Zad ((an.setCell ⟨x, 1, none⟩ (.slice P J.length T)).heap[x]? = some (.cells #[.int .i64 m, .slice P J.length T, y] 95 (0, 0))) := ⟨by (with_reducible repeat (first | refine Zac ?_ _ | refine Zab ?_ | refine Zaa ?_ _)); refine Zao (cs := #[.int .i64 m, D, y]) ?_ 1 _ rfl; exact bP c.out⟩
     have bU : Zad (Below w.heap.size w (an.setCell ⟨x, 1, none⟩ (.slice P J.length T))) := ⟨bW⟩
     (try clear d)
     (try clear X)
     (try clear a)
     (try clear l)
     (try clear c)
     (try clear HB)
     generalize (an.setCell ⟨x, 1, none⟩ (.slice P J.length T)) = dr at bO bQ bR bS bT bU ⊢
     have d := bO; have X := bQ; have a := bR; have l := bS; have c := bT; have HB := bU; clear bO bQ bR bS bT bU
     replace d := mA (zA d.out)
     replace X := mA (zG X.out)
     replace a := mA (Zab a.out)
     replace l := mA (Zab l.out)
     replace c := mA (Zab c.out)
     replace HB := mA (Za3 HB.out)
     refine start_ (n := 10) (S := fun w' => w'.cell? ⟨x, 0, none⟩ = some (.int .i64 m) ∧ w'.cell? ⟨x, 1, none⟩ = some (.slice P J.length T) ∧ w'.cell? ⟨x, 2, none⟩ = some (y) ∧ w'.cell? ⟨q, 0, none⟩ = some (.int .i64 m) ∧ w'.cell? ⟨q, 1, none⟩ = some (.int .i64 A) ∧ w'.cell? ⟨q, 2, none⟩ = some (.int .i64 z) ∧ w'.cell? ⟨q, 3, none⟩ = some (.slice M r.length G)) (ds := [9]) #[false, false, false, false, false, false, false, false, false, false] (by kernel_rfl) rfl rfl ⟨bc c 0, bc c 1, bc c 2, bc a 0, bc a 1, bc a 2, bc a 3⟩ (fun hHeld => ?_); refine Zc0 Zax.tab12 Zax.bits12 (fun HT_ HW_ => ?_)
     generalize dr.drew = w47 at d X a l c HB hHeld ⊢
     refine Zav (i := 0) (N := some 46) (Zaw HT_.out (by kernel_rfl)) ?_
     refine Zav (i := 2) (N := some 48) (Zaw HT_.out (by kernel_rfl)) ?_
     refine Zav (i := 4) (N := some 50) (Zaw HT_.out (by kernel_rfl)) ?_
     refine Zbt (i := 1) (N := some 47) (Zbb HT_.out HW_.out (by kernel_rfl)) hHeld ?_
     refine Zbt (i := 3) (N := some 49) (Zbb HT_.out HW_.out (by kernel_rfl)) hHeld ?_
     refine one_ (i := 5) (N := some 51) #[true, true, true, true, true, true, false, false, false, false] rfl rfl (Zb4 HT_.out (by kernel_rfl)) (by decide) (fun K hK => ?_)
     refine goes_ Try.func105 (by kernel_rfl) rfl #[.int .i64 z, .int .i64 I] (by rfl) rfl rfl (by (try simp only [List.map_toArray, List.map_cons, List.map_nil]); first | done | rfl | (simp only [List.length_drop, List.length_take]; rfl)) ?_
     with_reducible refine (Zdi.calls z I aA _ dq.out).mono ?_
     rintro e w' ⟨rfl, ⟨nd, rfl⟩⟩
     refine ⟨_, rfl, ?_⟩
     refine hK.out _ _ ⟨bc c 0, bc c 1, bc c 2, bc a 0, bc a 1, bc a 2, bc a 3⟩ (fun hHeld => ?_)
     clear hK K
     refine putS 51 ?_
     refine one_ (i := 6) (N := some 52) #[true, true, true, true, true, true, true, false, false, false] rfl rfl (Zb4 HT_.out (by kernel_rfl)) (by decide) (fun K hK => ?_)
     refine value_ (w1 := ?_) (v := ?_) (by rfl) rfl ?_ ?_
     rotate_left 2
     ·go_simp
      constructor
      ·rfl
      ·rfl
     refine hK.out _ _ ⟨(Zby (Zaa c.out _) 0).trans rfl, (Zby (Zaa c.out _) 1).trans rfl, (Zby (Zaa c.out _) 2).trans rfl, (Zby (Zaa a.out _) 0).trans rfl, (Zby (Zaa a.out _) 1).trans rfl, (Zby (Zaa a.out _) 2).trans rfl, (Zby (Zaa a.out _) 3).trans rfl⟩ (fun hHeld => ?_)
     clear hK K
     refine putS 52 ?_
     refine one_ (i := 7) (N := some 53) #[true, true, true, true, true, true, true, true, false, false] rfl rfl (Zb4 HT_.out (by kernel_rfl)) (by decide) (fun K hK => ?_)
     refine xT Kd.bool (w0 := w) w.heap.size (by rfl) (.tmp 47) (.tmp 52) 61 4 (.bool false) 1 rfl Try.underlying61 info4 rfl (by decide) (by omega) y u aA [.bool aA] (fun _ => True) (fun _ => False) rfl rfl ?aP (fun _ hk => hk.elim) ?aF ?aO ?aB ?aS ?aL ?_
     (case aP => exact rfl)
     (case aB => exact (bW))
     (case aF => exact (fun _ _ => trivial))
     (case aO => exact (rP d.out))
     (case aS => exact (Zan (bW)))
     (case aL => have := b4.out; omega)
     intro ef dt ho hb hg hat
     rw [← b5.out] at ho
     replace a := mA (Zaq (g := q) (o := .cells #[.int .i64 m, .int .i64 A, .int .i64 z, .slice M r.length G] 26 (0, 0)) (bP a.out) hg (zQ d.out a.out (by decide)))
     replace l := mA (Zaq (g := L) (o := .cells #[.int .i64 0, .slice none 0 0, .slice none 0 0] 95 (0, 0)) (bP l.out) hg (zQ d.out l.out (by decide)))
     replace c := mA (Zaq (g := x) (o := .cells #[.int .i64 m, .slice P J.length T, y] 95 (0, 0)) (bP c.out) hg (zQ d.out c.out (by decide)))
     replace X := mA (Kd.S_over' (sP X.out) (yV (rP d.out)) (by decide) hg)
     replace HB := mA (hb)
     have bm := mA (ho)
     clear d ho hb hg hat
     obtain ⟨a4, a5, bV⟩ := zP bm.out
     (first | subst bV | (injection bV with b9 du ca; have dv := b9.symm; have dw := ca.symm; clear b9 du ca; subst dv; subst dw))
     refine hK.out _ _ ⟨bc c 0, bc c 1, bc c 2, bc a 0, bc a 1, bc a 2, bc a 3⟩ (fun hHeld => ?_)
     clear hK K
     refine putS 53 ?_
     refine Zav (i := 8) (N := some 54) (Zaw HT_.out (by kernel_rfl)) ?_
     refine last_ (i := 9) (N := none) #[true, true, true, true, true, true, true, true, true, true] rfl rfl (Zb4 HT_.out (by kernel_rfl)) (by decide) (fun K hK => ?_)
     have eg : dt.cell? ⟨x, 2, none⟩ = some (y) := bc c 2
     have d3 := Zae c.out 2
     have di := B.out
     have dj := E.out
     have dk := U.out
     have dl := ab.out
     refine skip_ (w1 := ?_) (by rfl) rfl ?_ ?_
     rotate_left
     ·go_simp
      rfl
     refine hK.out _ _ ?_
     clear hK K
     refine done_ (done_of HT_.out (by kernel_rfl)) ?_
     try go_wp2
     go_roundg k2
     case measure => have := a8.out; have := bb.out; omega
     case rel => exact ⟨(wrap64 (ah + 1)), (J), (aC), (.slice P J.length T), (.slice a4 aC.length a5), (eW), H', ⟨by have := a8.out; have := bb.out; omega⟩, ⟨by (with_reducible repeat (first | apply zI | apply zJ | apply zG)); exact zF (zB (p := ⟨x, 2, none⟩) (zR X.out c.out (by decide)) (fun _ hk => hk.2) (.slice a4 aC.length a5)) (fun _ hk => trivial)⟩, ⟨by (with_reducible repeat (first | apply zD | apply zE | apply zA)); exact zC (zH (p := ⟨x, 2, none⟩) (zX bm.out c.out (by decide)) (fun _ hk => hk.2) (.slice a4 aC.length a5)) (fun _ hk => trivial)⟩, ⟨by (with_reducible repeat (first | refine Zac ?_ _ | refine Zab ?_ | refine Zaa ?_ _)); refine Zak ?_ B.out _; exact bP a.out⟩, ⟨by (with_reducible repeat (first | refine Zac ?_ _ | refine Zab ?_ | refine Zaa ?_ _)); refine Zak ?_ E.out _; exact bP l.out⟩, ⟨by (with_reducible repeat (first | refine Zac ?_ _ | refine Zab ?_ | refine Zaa ?_ _)); refine Zao (cs := #[.int .i64 m, .slice P J.length T, y]) ?_ 2 _ rfl; exact bP c.out⟩, ⟨bW⟩⟩
def Zdb.f (k : Nat) (c : Int) (d : Int) (e : Int) (g : List (List Int)) : Option (Int × Int × Int × (List (List Int))) := (Zax.f k c d e g).bind fun b => ((Zag.f k b.1 b.2.1 b.2.2).bind fun a => (some (a.1, a.2.1, a.2.2.1, a.2.2.2.1)))
theorem Zdb.calls (k : Nat) (q : Int) (r : Int) (s : Int) (x : Option Addr) (y : Nat) (i : List (List Int)) (r1 : Int) (r2 : Int) (r3 : Int) (r4 : List (List Int)) (w : World) (P : Kd.C (Kd.slice 2 (Kd.int .i64)) w x i.length i) (T : i.length ≤ y) (h : Zdb.f k q r s i = some (r1, r2, r3, r4)) :
  Calls Try.prog 40 #[.agg #[.int .i64 q, .int .i64 r, .int .i64 s, .slice x i.length y]] w fun e w' => ∃ X : Value, e = .returned (.agg #[.int .i64 r1, .int .i64 r2, .int .i64 r3, X]) ∧ Kd.S (Kd.slice 2 (Kd.int .i64)) 33 w' w.heap.size (fun _ => True) X r4 ∧ Below w.heap.size w w' := by
 have aT := Try.underlying26
 have U := mA P
 have W := mA T
 clear P T
 have HB := mA (Below.refl w.heap.size w)
 unfold Zdb.f at h
 have H := h
 clear h
 replace H := bE H
 obtain ⟨⟨J, K, L⟩, A20, H⟩ := H
 try dsimp only at H
 have A2 := mA A20
 clear A20
 replace H := bE H
 obtain ⟨⟨j, m, u, z, aa⟩, A30, H⟩ := H
 try dsimp only at H
 have A3 := mA A30
 clear A30
 simp only [Option.some.injEq, Prod.mk.injEq] at H
 obtain ⟨rfl, rfl, rfl, rfl⟩ := H
 go_enter Try.func40, Try.ntmps40
 go_wp2_with (first | ((with_reducible refine Zap (N := 1) rfl ?_); refine boxS (N := 1) (cs := #[.int .i64 q, .int .i64 r, .int .i64 s, .slice x i.length y]) (t := 26) ?_; intro aI hg w4 hbox hb; have a := mA (hbox); have aJ := geW (w := w) hg; have aK := geW (w := w) hg; replace HB := mA (Zaf (bW) hb); clear hb hbox hg) | ((with_reducible refine Zap (N := 2) rfl ?_); refine boxS (N := 2) (cs := #[.int .i64 0, .int .i64 0, .int .i64 0, .slice none 0 0]) (t := 26) ?_; intro l hg w5 hbox hb; have b := mA (hbox); have aL := geW (w := w) hg; have aM := geW (w := w) hg; replace HB := mA (Zaf (bW) hb); have B := mA (neB hg a); have D := mA (neC hg a); replace a := mA (blkB a.out hb); clear hb hbox hg; have aU := B.out; have aV := D.out; obtain ⟨ax, ay, az, aA⟩ := Zau a.out; obtain ⟨aB, aC, aD, aE⟩ := frz4 a.out) | ((with_reducible refine Zar (f := 83) rfl ?_); refine Za2 (some 7) Try.func83 #[.agg #[.int .i64 q, .int .i64 r, .int .i64 s, .slice x i.length y]] ?_; (with_reducible refine (Zax.calls k q r s _ _ i J K L _ ?side1 ?side2 A2.out).mono ?_); (case side1 => exact cP (zL U.out HB.out)); (case side2 => exact W.out); rintro e w8 ⟨aW, aX, rfl, v, Y, hb⟩; refine ⟨_, rfl, ?_⟩; have d := mA (yR v (Zan (bW))); have g := mA (zV Y (Zan (bW))); replace a := mA (blkB a.out hb); replace b := mA (blkB b.out hb); replace HB := mA (Zaf (bW) hb); (try clear hb); (try clear hb2); (try clear hk); (try clear hi); (try clear v); (try clear Y); obtain ⟨aF, aG, aH⟩ := yD d.out; subst aH; obtain ⟨ab, ac, ad⟩ := zP g.out; subst ad) | ((with_reducible refine Zar (f := 82) rfl ?_); refine Za2 (some 8) Try.func82 #[.agg #[.int .i64 J, .slice aF K.length aG, .slice ab L.length ac]] ?_; (with_reducible refine (Zag.calls k J _ _ K _ _ L j m u z aa _ ?side1 ?side2 ?side3 ?side4 A3.out).mono ?_); (case side1 => exact cP ((zW d.out).2.2)); (case side2 => exact (zW d.out).2.1); (case side3 => exact cP ((zK g.out).2.2)); (case side4 => exact (zK g.out).2.1); rintro e aZ ⟨aY, rfl, v, hb⟩; refine ⟨_, rfl, ?_⟩; replace g := mA (zM (rP g.out) hb); have n := mA (yR (yI v (yO (sP d.out))) (Zan (bW))); replace d := mA (yK (sP d.out) (yN v) hb); replace a := mA (blkB a.out hb); replace b := mA (blkB b.out hb); replace HB := mA (Zaf (bW) hb); (try clear hb); (try clear hb2); (try clear hk); (try clear hi); (try clear v)) | ((with_reducible refine Zap (N := 3) rfl ?_); refine boxS (N := 3) (cs := #[.int .i64 0, .int .i64 0, .int .i64 0, .slice none 0 0]) (t := 26) ?_; intro o hg a0 hbox hb; replace d := mA (zS (sP d.out) hb); replace g := mA (zM (rP g.out) hb); replace n := mA (zS (sP n.out) hb); have A := mA (hbox); have aN := geW (w := w) hg; have aO := geW (w := w) hg; replace HB := mA (Zaf (bW) hb); have E := mA (neB hg a); have G := mA (neC hg a); replace a := mA (blkB a.out hb); have c := mA (neB hg b); have I := mA (neC hg b); replace b := mA (blkB b.out hb); clear hb hbox hg; have aP := G.out; have aQ := E.out; have aR := I.out; have aS := c.out; obtain ⟨af, ag, ah, ai⟩ := Zau A.out; obtain ⟨aj, ak, al, am⟩ := frz4 A.out; obtain ⟨M, O, ae⟩ := yD n.out; subst ae; obtain ⟨an, ao, ap, aq⟩ := Zau b.out; obtain ⟨ar, au, av, aw⟩ := frz4 b.out))
 refine bodyPost_ret (results_cell_row rfl _ _ l 26 #[.int .i64 j, .int .i64 m, .int .i64 u, .slice M z.length O] (0, 0) _ rfl (by (with_reducible repeat (first | refine Zac ?_ _ | refine Zab ?_ | refine Zaa ?_ _)); refine Zao (cs := #[.int .i64 j, .int .i64 m, .int .i64 u, .slice none 0 0]) ?_ 3 _ rfl; (with_reducible repeat (first | refine Zac ?_ _ | refine Zab ?_ | refine Zaa ?_ _)); refine Zao (cs := #[.int .i64 j, .int .i64 m, .int .i64 0, .slice none 0 0]) ?_ 2 _ rfl; (with_reducible repeat (first | refine Zac ?_ _ | refine Zab ?_ | refine Zaa ?_ _)); refine Zao (cs := #[.int .i64 j, .int .i64 0, .int .i64 0, .slice none 0 0]) ?_ 1 _ rfl; (with_reducible repeat (first | refine Zac ?_ _ | refine Zab ?_ | refine Zaa ?_ _)); refine Zao (cs := #[.int .i64 0, .int .i64 0, .int .i64 0, .slice none 0 0]) ?_ 0 _ rfl; (with_reducible repeat (first | refine Zac ?_ _ | refine Zab ?_ | refine Zaa ?_ _)); refine Zak ?_ c.out _; (with_reducible repeat (first | refine Zac ?_ _ | refine Zab ?_ | refine Zaa ?_ _)); refine Zak ?_ c.out _; (with_reducible repeat (first | refine Zac ?_ _ | refine Zab ?_ | refine Zaa ?_ _)); refine Zak ?_ c.out _; (with_reducible repeat (first | refine Zac ?_ _ | refine Zab ?_ | refine Zaa ?_ _)); refine Zak ?_ c.out _; exact bP b.out) Try.underlying26 rfl (by kernel_rfl)) rfl ?_
 exact ⟨_, eW, by (with_reducible repeat (first | apply zI | apply zJ | apply zG)); exact zF (zB (p := ⟨l, 3, none⟩) (zB (p := ⟨l, 2, none⟩) (zB (p := ⟨l, 1, none⟩) (zB (p := ⟨l, 0, none⟩) (zB (p := ⟨o, 3, none⟩) (zB (p := ⟨o, 2, none⟩) (zB (p := ⟨o, 1, none⟩) (zB (p := ⟨o, 0, none⟩) (zR (zR n.out A.out (by decide)) b.out (by decide)) (fun _ hk => hk.1.2) (.int .i64 j)) (fun _ hk => hk.1.2) (.int .i64 m)) (fun _ hk => hk.1.2) (.int .i64 u)) (fun _ hk => hk.1.2) (.slice M z.length O)) (fun _ hk => hk.2) (.int .i64 j)) (fun _ hk => hk.2) (.int .i64 m)) (fun _ hk => hk.2) (.int .i64 u)) (fun _ hk => hk.2) (.slice M z.length O)) (fun _ hk => trivial), bW⟩
end Go.Proofs.Ytgindgodfcfgkaa.P
end M0
