import Derived.Test.YtgindgodfcfgkaaDoorCFnExactIsClosed12
set_option maxHeartbeats 8000000
set_option maxRecDepth 100000
section M0
namespace Go.Proofs.YtgindgodfcfgkaaDoor.P
open Go.RowKit Go.Proofs.YtgindgodfcfgkaaDoor.Sh Go.Proofs.YtgindgodfcfgkaaDoorW.PrintWords Go.Proofs.YtgindgodfcfgkaaDoorW.PrintLast Go.Proofs.YtgindgodfcfgkaaDoorW.PrintMore
open Kd
attribute [local go_sem] Zcp Zcq Zc0 Zcy Zcf Zcg Zcr Zcs   -- for this text's walks alone
set_option linter.unusedVariables false
set_option linter.unusedSimpArgs false
def Zdm.f (c : Int) (a : List Int) (a1 : Int) (a2 : Int) : Option (Bool) := if 0 ≤ a1 then (if a1 < (a.length : Int) then ((Zdg.f (rd a a1) a2).bind fun b => (some b)) else (none)) else (none)
theorem Zdm.calls (c : Int) (d : Option Addr) (g : Nat) (a : List Int) (a1 : Int) (a2 : Int) (r : Bool) (w : World) (k : Kd.C (Kd.int .i64) w d a.length a) (l : a.length ≤ g) (h : Zdm.f c a a1 a2 = some r) :
  Calls Tryd.prog 33 #[.agg #[.int .i64 c, .slice d a.length g], .int .i64 a1, .int .i64 a2] w fun e w' => e = .returned (.bool r) ∧ Below w.heap.size w w' := by
 have E := Tryd.underlying32
 have n := mA k
 have y := mA l
 clear k l
 have HB := mA (Below.refl w.heap.size w)
 unfold Zdm.f at h
 have H := h
 clear h
 by_cases c4 : 0 ≤ a1; rotate_left
 ·rw [if_neg c4] at H
  exact absurd H (by simp)
 rw [if_pos c4] at H
 have G := dT c4
 clear c4
 by_cases c5 : a1 < (a.length : Int); rotate_left
 ·rw [if_neg c5] at H
  exact absurd H (by simp)
 rw [if_pos c5] at H
 have I := dT c5
 clear c5
 replace H := bE H
 obtain ⟨p, o, H⟩ := H
 have A6 := mA o
 clear o
 obtain rfl := oI H
 go_enter Tryd.func33, Tryd.ntmps33
 go_wp2_with (first | ((with_reducible refine Zao (N := 3) rfl ?_); refine boxS (N := 3) (cs := #[.int .i64 c, .slice d a.length g]) (t := 32) ?_; intro z hg w7 hbox hb; have m := mA (hbox); have A := geW (w := w) hg; have B := geW (w := w) hg; replace HB := mA (Zac (bW) hb); clear hb hbox hg; obtain ⟨s, u⟩ := Zc7 m.out; obtain ⟨v, x⟩ := frz2 m.out; have i : 0 ≤ (a1 : Int) := ofD; have j : a1 < (a.length : Int) := ofD; obtain ⟨D, q, b⟩ := zH n.out a1 i j; cases q; replace b := (HB.out.cell (wB w b)).trans b; replace i := eq_true i; replace j := eq_true j) | ((with_reducible refine Zaw (f := 44) rfl ?_); refine Zbq (some 13) Tryd.func44 #[.int .i64 (rd a a1), .int .i64 a2] ?_; (with_reducible refine (Zdg.calls (rd a a1) a2 p _ A6.out).mono ?_); rintro e w' ⟨rfl, ⟨nd, rfl⟩⟩; refine ⟨_, rfl, ?_⟩))
 go_ret
 exact ⟨eW, bW⟩
def Zbl.f (b : Int) (c : Int) (d : List Bool) (a : List (List Int)) (a1 : Int) (a2 : Int) : Option (Int) := if a1 < 0 then (some (-1)) else (if 0 ≤ a1 then (if a1 < (a.length : Int) then (if 0 ≤ a2 then (if a2 < ((Zag a a1).length : Int) then (some (rd (Zag a a1) a2)) else (none)) else (none)) else (none)) else (none))
theorem Zbl.calls (j : Int) (k : Int) (l : Option Addr) (m : Nat) (b : List Bool) (n : Option Addr) (o : Nat) (a : List (List Int)) (a1 : Int) (a2 : Int) (r : Int) (w : World) (x : Kd.C Kd.bool w l b.length b) (y : b.length ≤ m) (z : Kd.C (Kd.slice 2 (Kd.int .i64)) w n a.length a) (A : a.length ≤ o) (h : Zbl.f j k b a a1 a2 = some r) :
  Calls Tryd.prog 54 #[.agg #[.int .i64 j, .int .i64 k, .slice l b.length m, .slice n a.length o], .int .i64 a1, .int .i64 a2] w fun e w' => e = .returned (.int .i64 r) ∧ Below w.heap.size w w' := by
 have ai := Tryd.underlying48
 have ad := mA x
 have ae := mA y
 clear x y
 have D := mA z
 have af := mA A
 clear z A
 have HB := mA (Below.refl w.heap.size w)
 unfold Zbl.f at h
 have H := h
 clear h
 by_cases c4 : a1 < 0
 ·rw [if_pos c4] at H
  have J := dT c4
  clear c4
  obtain rfl := oI H
  go_enter Tryd.func54, Tryd.ntmps54
  go_wp2_with (first | ((with_reducible refine Zao (N := 3) rfl ?_); refine boxS (N := 3) (cs := #[.int .i64 j, .int .i64 k, .slice l b.length m, .slice n a.length o]) (t := 48) ?_; intro E hg w5 hbox hb; have p := mA (hbox); have G := geW (w := w) hg; have I := geW (w := w) hg; replace HB := mA (Zac (bW) hb); clear hb hbox hg))
  go_ret
  exact ⟨eW, bW⟩
 rw [if_neg c4] at H
 have J := dF c4
 clear c4
 by_cases c6 : 0 ≤ a1; rotate_left
 ·rw [if_neg c6] at H
  exact absurd H (by simp)
 rw [if_pos c6] at H
 have aj := dT c6
 clear c6
 by_cases c7 : a1 < (a.length : Int); rotate_left
 ·rw [if_neg c7] at H
  exact absurd H (by simp)
 rw [if_pos c7] at H
 have ak := dT c7
 clear c7
 by_cases c8 : 0 ≤ a2; rotate_left
 ·rw [if_neg c8] at H
  exact absurd H (by simp)
 rw [if_pos c8] at H
 have al := dT c8
 clear c8
 by_cases c9 : a2 < ((Zag a a1).length : Int); rotate_left
 ·rw [if_neg c9] at H
  exact absurd H (by simp)
 rw [if_pos c9] at H
 have am := dT c9
 clear c9
 obtain rfl := oI H
 go_enter Tryd.func54, Tryd.ntmps54
 go_wp2_with (first | ((with_reducible refine Zao (N := 3) rfl ?_); refine boxS (N := 3) (cs := #[.int .i64 j, .int .i64 k, .slice l b.length m, .slice n a.length o]) (t := 48) ?_; intro E hg an hbox hb; have p := mA (hbox); have G := geW (w := w) hg; have I := geW (w := w) hg; replace HB := mA (Zac (bW) hb); clear hb hbox hg; obtain ⟨M, O, P, T⟩ := Zbj p.out; obtain ⟨U, W, X, Y⟩ := frz4 p.out; have q : 0 ≤ (a1 : Int) := ofD; have s : a1 < (a.length : Int) := ofD; obtain ⟨ag, ab, ac, K, c, g, i⟩ := Zcu D.out a1 q s; cases K; replace c := (HB.out.cell (wB w c)).trans c; have B := mA i; have aa := mA g; clear i g; replace q := eq_true q; replace s := eq_true s; have u : 0 ≤ (a2 : Int) := ofD; have v : a2 < ((Zag a a1).length : Int) := ofD; obtain ⟨ah, L, d⟩ := zH B.out a2 u v; cases L; replace d := (HB.out.cell (wB w d)).trans d; replace u := eq_true u; replace v := eq_true v))
 go_ret
 exact ⟨eW, bW⟩
mutual
def Zal.l0 : Nat → Int → Int → Int → Int → List Bool → List (List Int) → Int → List Int → Option (List Int)
 | 0, _, _, _, _, _, _, _, _ => none
 | k + 1, i, h, b, c, d, e, a, g => if h < i then (Zal.l1 k h i h a 0 b c d e a g) else (some ([] : List Int))
def Zal.l1 : Nat → Int → Int → Int → Int → Int → Int → Int → List Bool → List (List Int) → Int → List Int → Option (List Int)
 | 0, _, _, _, _, _, _, _, _, _, _, _ => none
 | k + 1, x5, i, j, l, h, a, b, c, d, e, g => if h < l then (Zal.l2 k x5 h (wrap64 (h + 1)) i j l h a b c d e g) else (Zal.l0 k i (wrap64 (j + 1)) a b c d e g)
def Zal.l2 : Nat → Int → Int → Int → Int → Int → Int → Int → Int → Int → List Bool → List (List Int) → Int → List Int → Option (List Int)
 | 0, _, _, _, _, _, _, _, _, _, _, _, _, _ => none
 | k + 1, x5, x6, x7, h, i, j, l, a, b, c, d, e, g => if x7 < e then ((Zdm.f e g x6 x7).bind fun m => (if m = true then (Zal.l2 k x5 x6 (wrap64 (x7 + 1)) h i j l a b c d e g) else ((Zbl.f a b c d x5 x6).bind fun n => ((Zbl.f a b c d n x7).bind fun o => ((Zbl.f a b c d x5 x7).bind fun p => ((Zbl.f a b c d p x6).bind fun q => (if o = q then (Zal.l2 k x5 x6 (wrap64 (x7 + 1)) h i j l a b c d e g) else (some (([x5, x6, x7] : List Int)))))))))) else (Zal.l1 k x5 h i j (wrap64 (l + 1)) a b c d e g)
end
def Zal.f (k : Nat) (b : Int) (c : Int) (d : List Bool) (a : List (List Int)) (e : Int) (g : List Int) : Option (List Int) := (Zbx.f a).bind fun h => (Zal.l0 k h 0 b c d a e g)
def Zal.T10 : Bool × List (List Nat × List Nat) := (true, [([], []), ([], []), ([], []), ([0, 1, 2], [0, 1, 2]), ([3], [3]), ([4, 3], [4]), ([5], [5]), ([5], [5]), ([5], [5]), ([5], [5]), ([7, 8, 9, 5, 5], [5, 7, 8, 9]), ([5], [5]), ([6, 10, 11, 10, 5], [5, 6, 10, 11]), ([5], [5]), ([5], [5]), ([5], [5]), ([5], [5]), ([14, 15, 16, 12, 5], [5, 14, 15, 16]), ([5], [5]), ([13, 17, 18, 17, 5], [5, 13, 17, 18]), ([12, 19, 5], [5, 12, 19]), ([5, 20], [5, 20])])
def Zal.B10 : List Nat := [0, 0, 0, 7, 15, 31, 63, 63, 63, 63, 959, 63, 4095, 63, 63, 63, 63, 122879, 63, 524287, 1048575, 2097151]
theorem Zal.tab10 : rtab .any (opsOf Tryd.f45 10) = Zal.T10 := by kernel_rfl
theorem Zal.bits10 : Zck Zal.T10.2 Zal.B10 = true := by kernel_rfl
theorem Zal.calls (k : Nat) (l : Int) (m : Int) (z : Option Addr) (A : Nat) (g : List Bool) (u : Option Addr) (v : Nat) (d : List (List Int)) (o : Int) (x : Option Addr) (y : Nat) (p : List Int) (r : List Int) (w : World) (ai : Kd.C Kd.bool w z g.length g) (aj : g.length ≤ A) (ak : Kd.C (Kd.slice 2 (Kd.int .i64)) w u d.length d) (al : d.length ≤ v) (am : Kd.C (Kd.int .i64) w x p.length p) (an : p.length ≤ y) (h : Zal.f k l m g d o p = some r) :
  Calls Tryd.prog 45 #[.agg #[.int .i64 l, .int .i64 m, .slice z g.length A, .slice u d.length v], .agg #[.int .i64 o, .slice x p.length y]] w fun e w' => ∃ ax : Value, e = .returned (ax) ∧ Kd.R (Kd.int .i64) 2 w' w.heap.size (fun _ => True) ax r ∧ Below w.heap.size w w' ∧ NilOf ax r := by
 have br := Tryd.underlying48
 have bs := Tryd.underlying32
 have J := mA ai
 have L := mA aj
 clear ai aj
 have G := mA ak
 have I := mA al
 clear ak al
 have af := mA am
 have ag := mA an
 clear am an
 have HB := mA (Below.refl w.heap.size w)
 unfold Zal.f at h
 have H := h
 clear h
 replace H := bE H
 obtain ⟨Y, aR, H⟩ := H
 have A3 := mA aR
 clear aR
 have H' := mA H
 clear H
 go_enter Tryd.func45, Tryd.ntmps45
 go_wp2_with (first | ((with_reducible refine Zao (N := 2) rfl ?_); refine boxS (N := 2) (cs := #[.int .i64 l, .int .i64 m, .slice z g.length A, .slice u d.length v]) (t := 48) ?_; intro E hg w4 hbox hb; have a := mA (hbox); have bf := geW (w := w) hg; have bg := geW (w := w) hg; replace HB := mA (Zac (bW) hb); clear hb hbox hg) | ((with_reducible refine Zao (N := 3) rfl ?_); refine boxS (N := 3) (cs := #[.int .i64 o, .slice x p.length y]) (t := 32) ?_; intro s hg w5 hbox hb; have b := mA (hbox); have bh := geW (w := w) hg; have bi := geW (w := w) hg; replace HB := mA (Zac (bW) hb); have B := mA (neB hg a); have D := mA (neC hg a); replace a := mA (blkB a.out hb); clear hb hbox hg; have bu := B.out; have bv := D.out; obtain ⟨ay, az, aA, aB⟩ := Zbj a.out; obtain ⟨aC, aD, aE, aF⟩ := frz4 a.out) | ((with_reducible refine Zaw (f := 53) rfl ?_); refine Zbq (some 10) Tryd.func53 #[.slice u d.length v] ?_; (with_reducible refine (Zbx.calls _ _ d Y _ ?side1 ?side2 A3.out).mono ?_); (case side1 => exact cP (zE G.out HB.out)); (case side2 => exact I.out); rintro e w' ⟨rfl, ⟨nd, rfl⟩⟩; refine ⟨_, rfl, ?_⟩))
 go_loopg [11] k (fun kq v11 w' => ∃ (j : Int), v11 = .int .i64 j ∧ Zaa (Zal.l0 kq Y j l m g d o p = some r) ∧ Zaa (kq ≤ k) ∧ Zaa (w'.heap[E]? = some (.cells #[.int .i64 l, .int .i64 m, (.slice z g.length A), (.slice u d.length v)] 48 (0, 0))) ∧ Zaa (w'.heap[s]? = some (.cells #[.int .i64 o, (.slice x p.length y)] 32 (0, 0))) ∧ Zaa (Below w.heap.size w w'))
 case atStart => exact ⟨(0), (eW), H', ⟨Nat.le_refl _⟩, ⟨bP a.out⟩, ⟨bP b.out⟩, ⟨bW⟩⟩
 case round =>
  clear H' ay az aA aB aC aD aE aF
  obtain ⟨j, rfl, HA, W, a, b, HB⟩ := hrel
  cases gk with
  | zero => exact absurd HA.out (by simp [Zal.l0])
  | succ k1 =>
   have H := HA.out
   clear HA
   simp only [Zal.l0] at H
   by_cases c8 : j < Y; rotate_left
   ·rw [if_neg c8] at H
    have aG := dF c8
    clear c8
    obtain rfl := oI H
    go_wp2
    go_ret
    exact ⟨_, eW, by first | exact yU _ _ _ _ _ | exact Kd.N_nil _ _ _ _ _ | exact Kd.V_nil _ _ _ _ _ | exact Kd.Q_nil _ _ _ _ _ | exact Kd.S_nil _ _ _ _ _, bW, nlW⟩
   rw [if_pos c8] at H
   have aG := dT c8
   clear c8
   have H' := mA H
   clear H
   have bw := D.out
   have bx := B.out
   have ar : wr.cell? ⟨s, 0, none⟩ = some (.int .i64 o) := bc b 0
   have au : wr.cell? ⟨s, 1, none⟩ = some (.slice x p.length y) := bc b 1
   have av := Zab b.out 0
   have aw := Zab b.out 1
   go_wp2
   go_loopg [16] k1 (fun kq v16 w' => ∃ (c : Int), v16 = .int .i64 c ∧ Zaa (Zal.l1 kq j Y j o c l m g d o p = some r) ∧ Zaa (kq ≤ k1) ∧ Zaa (w'.heap[E]? = some (.cells #[.int .i64 l, .int .i64 m, (.slice z g.length A), (.slice u d.length v)] 48 (0, 0))) ∧ Zaa (w'.heap[s]? = some (.cells #[.int .i64 o, (.slice x p.length y)] 32 (0, 0))) ∧ Zaa (Below w.heap.size w w'))
   case atStart => exact ⟨(0), (eW), H', ⟨Nat.le_refl _⟩, ⟨bP a.out⟩, ⟨bP b.out⟩, ⟨bW⟩⟩
   case round =>
    clear H' aG ar au av aw
    obtain ⟨c, rfl, HA, X, a, b, HB⟩ := hrel
    cases gk with
    | zero => exact absurd HA.out (by simp [Zal.l1])
    | succ k2 =>
     have H := HA.out
     clear HA
     simp only [Zal.l1] at H
     by_cases ac : c < o; rotate_left
     ·rw [if_neg ac] at H
      have ao := dF ac
      clear ac
      have H' := mA H
      clear H
      go_wp2
      go_roundg k2
      case measure => have := W.out; have := X.out; omega
      case rel => exact ⟨(wrap64 (j + 1)), (eW), H', ⟨by have := W.out; have := X.out; omega⟩, ⟨bP a.out⟩, ⟨bP b.out⟩, ⟨bW⟩⟩
     rw [if_pos ac] at H
     have ao := dT ac
     clear ac
     have H' := mA H
     clear H
     go_wp2
     go_loopg [7] k2 (fun kq v7 w' => ∃ (q : Int), v7 = .int .i64 q ∧ Zaa (Zal.l2 kq j c q Y j o c l m g d o p = some r) ∧ Zaa (kq ≤ k2) ∧ Zaa (w'.heap[E]? = some (.cells #[.int .i64 l, .int .i64 m, (.slice z g.length A), (.slice u d.length v)] 48 (0, 0))) ∧ Zaa (w'.heap[s]? = some (.cells #[.int .i64 o, (.slice x p.length y)] 32 (0, 0))) ∧ Zaa (Below w.heap.size w w'))
     case atStart => exact ⟨(wrap64 (c + 1)), (eW), H', ⟨Nat.le_refl _⟩, ⟨bP a.out⟩, ⟨bP b.out⟩, ⟨bW⟩⟩
     case round =>
      clear H' ao
      obtain ⟨q, rfl, HA, ad, a, b, HB⟩ := hrel
      cases gk with
      | zero => exact absurd HA.out (by simp [Zal.l2])
      | succ k3 =>
       have H := HA.out
       clear HA
       simp only [Zal.l2] at H
       by_cases ae : q < o; rotate_left
       ·rw [if_neg ae] at H
        have aN := dF ae
        clear ae
        have H' := mA H
        clear H
        have bj := D.out
        have bk := B.out
        have aX : wr.cell? ⟨s, 0, none⟩ = some (.int .i64 o) := bc b 0
        have aY : wr.cell? ⟨s, 1, none⟩ = some (.slice x p.length y) := bc b 1
        have aZ := Zab b.out 0
        have a0 := Zab b.out 1
        go_wp2
        go_roundg k3
        case measure => have := W.out; have := X.out; have := ad.out; omega
        case rel => exact ⟨(wrap64 (c + 1)), (eW), H', ⟨by have := W.out; have := X.out; have := ad.out; omega⟩, ⟨bP a.out⟩, ⟨bP b.out⟩, ⟨bW⟩⟩
       rw [if_pos ae] at H
       have aN := dT ae
       clear ae
       replace H := bE H
       obtain ⟨aW, aH, H⟩ := H
       have aI := mA aH
       clear aH
       by_cases ap : aW = true
       ·subst ap
        rw [if_pos rfl] at H
        have H' := mA H
        clear H
        have bl := D.out
        have bm := B.out
        have a1 : wr.cell? ⟨s, 0, none⟩ = some (.int .i64 o) := bc b 0
        have a2 : wr.cell? ⟨s, 1, none⟩ = some (.slice x p.length y) := bc b 1
        have a3 := Zab b.out 0
        have a4 := Zab b.out 1
        try go_wp2
        replace a := mA (Zad a.out)
        replace b := mA (Zad b.out)
        replace HB := mA (Zax HB.out)
        refine Zcd (n := 22) (S := fun w' => w'.cell? ⟨s, 0, none⟩ = some (.int .i64 o) ∧ w'.cell? ⟨s, 1, none⟩ = some (.slice x p.length y)) (ds := []) #[false, false, false, false, false, false, false, false, false, false, false, false, false, false, false, false, false, false, false, false, false, false] (by kernel_rfl) rfl rfl ⟨bc b 0, bc b 1⟩ (fun hHeld => ?_); refine Zb8 Zal.tab10 Zal.bits10 (fun HT_ HW_ => ?_)
        generalize wr.drew = w17 at a b HB hHeld ⊢
        refine Zaq (i := 1) (N := some 28) (Zam HT_.out (by kernel_rfl)) ?_
        refine Zaq (i := 2) (N := some 29) (Zam HT_.out (by kernel_rfl)) ?_
        refine Za7 (i := 0) (N := some 27) (Za1 HT_.out HW_.out (by kernel_rfl)) hHeld ?_
        refine one_ (i := 3) (N := some 30) #[true, true, true, true, false, false, false, false, false, false, false, false, false, false, false, false, false, false, false, false, false, false] rfl rfl (Zbk HT_.out (by kernel_rfl)) (by decide) (fun K hK => ?_)
        refine Zb0 Tryd.func33 (by kernel_rfl) rfl #[.agg #[.int .i64 o, .slice x p.length y], .int .i64 c, .int .i64 q] (by rfl) rfl rfl (by (try simp only [List.map_toArray, List.map_cons, List.map_nil]); first | done | rfl | (simp only [List.length_drop, List.length_take]; rfl)) ?_
        with_reducible refine (Zdm.calls o _ _ p c q true _ ?side1 ?side2 aI.out).mono ?_
        (case side1 => exact cP (zE af.out HB.out))
        (case side2 => exact ag.out)
        rintro e bB ⟨rfl, hb⟩
        refine ⟨_, rfl, ?_⟩
        replace a := mA (blkB a.out hb)
        replace b := mA (blkB b.out hb)
        replace HB := mA (Zac (bW) hb)
        (try clear hb)
        (try clear hb2)
        (try clear hk)
        (try clear hi)
        refine hK.out _ _ ⟨bc b 0, bc b 1⟩ (fun hHeld => ?_)
        clear hK K
        refine putS 30 ?_
        refine Zaq (i := 4) (N := some 31) (Zam HT_.out (by kernel_rfl)) ?_
        refine Zaq (i := 5) (N := some 32) (Zam HT_.out (by kernel_rfl)) ?_
        refine Zcc (i := 6) (N := some 33) (Zam HT_.out (by kernel_rfl)) ?_
        refine Zcc (i := 7) (N := some 34) (Zam HT_.out (by kernel_rfl)) ?_
        refine Zcc (i := 8) (N := some 35) (Zam HT_.out (by kernel_rfl)) ?_
        refine Zcc (i := 9) (N := some 36) (Zam HT_.out (by kernel_rfl)) ?_
        refine Zcc (i := 10) (N := some 37) (Zam HT_.out (by kernel_rfl)) ?_
        refine Zcc (i := 11) (N := some 38) (Zam HT_.out (by kernel_rfl)) ?_
        refine Zcc (i := 12) (N := some 39) (Zam HT_.out (by kernel_rfl)) ?_
        refine Zcc (i := 13) (N := some 40) (Zam HT_.out (by kernel_rfl)) ?_
        refine Zcc (i := 14) (N := some 41) (Zam HT_.out (by kernel_rfl)) ?_
        refine Zcc (i := 15) (N := some 42) (Zam HT_.out (by kernel_rfl)) ?_
        refine Zcc (i := 16) (N := some 43) (Zam HT_.out (by kernel_rfl)) ?_
        refine Zcc (i := 17) (N := some 44) (Zam HT_.out (by kernel_rfl)) ?_
        refine Zcc (i := 18) (N := some 45) (Zam HT_.out (by kernel_rfl)) ?_
        refine Zcc (i := 19) (N := some 46) (Zam HT_.out (by kernel_rfl)) ?_
        refine Zcc (i := 20) (N := some 47) (Zam HT_.out (by kernel_rfl)) ?_
        refine Zaq (i := 21) (N := some 48) (Zam HT_.out (by kernel_rfl)) ?_
        refine Zcx (Zcv HT_.out (by kernel_rfl)) ?_
        try go_wp2
        go_roundg k3
        case measure => have := W.out; have := X.out; have := ad.out; omega
        case rel => exact ⟨(wrap64 (q + 1)), (eW), H', ⟨by have := W.out; have := X.out; have := ad.out; omega⟩, ⟨bP a.out⟩, ⟨bP b.out⟩, ⟨bW⟩⟩
       replace ap := Bool.eq_false_iff.mpr ap
       subst ap
       rw [iF] at H
       replace H := bE H
       obtain ⟨T, aJ, H⟩ := H
       have aS := mA aJ
       clear aJ
       replace H := bE H
       obtain ⟨O, aK, H⟩ := H
       have aT := mA aK
       clear aK
       replace H := bE H
       obtain ⟨U, aL, H⟩ := H
       have aU := mA aL
       clear aL
       replace H := bE H
       obtain ⟨P, aM, H⟩ := H
       have aV := mA aM
       clear aM
       by_cases aa : O = P
       ·rw [if_pos aa] at H
        have aO : (O == P) = true := beq_iff_eq.mpr aa
        have aP : (O != P) = false := bne_eq_false_iff_eq.mpr aa
        clear aa
        have H' := mA H
        clear H
        have bn := D.out
        have bo := B.out
        have a5 : wr.cell? ⟨s, 0, none⟩ = some (.int .i64 o) := bc b 0
        have a6 : wr.cell? ⟨s, 1, none⟩ = some (.slice x p.length y) := bc b 1
        have a7 := Zab b.out 0
        have a8 := Zab b.out 1
        try go_wp2
        replace a := mA (Zad a.out)
        replace b := mA (Zad b.out)
        replace HB := mA (Zax HB.out)
        refine Zcd (n := 22) (S := fun w' => w'.cell? ⟨s, 0, none⟩ = some (.int .i64 o) ∧ w'.cell? ⟨s, 1, none⟩ = some (.slice x p.length y) ∧ w'.cell? ⟨E, 0, none⟩ = some (.int .i64 l) ∧ w'.cell? ⟨E, 1, none⟩ = some (.int .i64 m) ∧ w'.cell? ⟨E, 2, none⟩ = some (.slice z g.length A) ∧ w'.cell? ⟨E, 3, none⟩ = some (.slice u d.length v)) (ds := []) #[false, false, false, false, false, false, false, false, false, false, false, false, false, false, false, false, false, false, false, false, false, false] (by kernel_rfl) rfl rfl ⟨bc b 0, bc b 1, bc a 0, bc a 1, bc a 2, bc a 3⟩ (fun hHeld => ?_); refine Zb8 Zal.tab10 Zal.bits10 (fun HT_ HW_ => ?_)
        generalize wr.drew = w26 at a b HB hHeld ⊢
        refine Zaq (i := 1) (N := some 28) (Zam HT_.out (by kernel_rfl)) ?_
        refine Zaq (i := 2) (N := some 29) (Zam HT_.out (by kernel_rfl)) ?_
        refine Za7 (i := 0) (N := some 27) (Za1 HT_.out HW_.out (by kernel_rfl)) hHeld ?_
        refine one_ (i := 3) (N := some 30) #[true, true, true, true, false, false, false, false, false, false, false, false, false, false, false, false, false, false, false, false, false, false] rfl rfl (Zbk HT_.out (by kernel_rfl)) (by decide) (fun K hK => ?_)
        refine Zb0 Tryd.func33 (by kernel_rfl) rfl #[.agg #[.int .i64 o, .slice x p.length y], .int .i64 c, .int .i64 q] (by rfl) rfl rfl (by (try simp only [List.map_toArray, List.map_cons, List.map_nil]); first | done | rfl | (simp only [List.length_drop, List.length_take]; rfl)) ?_
        with_reducible refine (Zdm.calls o _ _ p c q false _ ?side1 ?side2 aI.out).mono ?_
        (case side1 => exact cP (zE af.out HB.out))
        (case side2 => exact ag.out)
        rintro e bC ⟨rfl, hb⟩
        refine ⟨_, rfl, ?_⟩
        replace a := mA (blkB a.out hb)
        replace b := mA (blkB b.out hb)
        replace HB := mA (Zac (bW) hb)
        (try clear hb)
        (try clear hb2)
        (try clear hk)
        (try clear hi)
        refine hK.out _ _ ⟨bc b 0, bc b 1, bc a 0, bc a 1, bc a 2, bc a 3⟩ (fun hHeld => ?_)
        clear hK K
        refine putS 30 ?_
        refine Zaq (i := 4) (N := some 31) (Zam HT_.out (by kernel_rfl)) ?_
        refine Zaq (i := 5) (N := some 32) (Zam HT_.out (by kernel_rfl)) ?_
        refine Zaq (i := 8) (N := some 35) (Zam HT_.out (by kernel_rfl)) ?_
        refine Zaq (i := 9) (N := some 36) (Zam HT_.out (by kernel_rfl)) ?_
        refine Zaq (i := 11) (N := some 38) (Zam HT_.out (by kernel_rfl)) ?_
        refine Zaq (i := 15) (N := some 42) (Zam HT_.out (by kernel_rfl)) ?_
        refine Zaq (i := 16) (N := some 43) (Zam HT_.out (by kernel_rfl)) ?_
        refine Zaq (i := 18) (N := some 45) (Zam HT_.out (by kernel_rfl)) ?_
        refine Za7 (i := 6) (N := some 33) (Za1 HT_.out HW_.out (by kernel_rfl)) hHeld ?_
        refine Za7 (i := 7) (N := some 34) (Za1 HT_.out HW_.out (by kernel_rfl)) hHeld ?_
        refine Za7 (i := 13) (N := some 40) (Za1 HT_.out HW_.out (by kernel_rfl)) hHeld ?_
        refine Za7 (i := 14) (N := some 41) (Za1 HT_.out HW_.out (by kernel_rfl)) hHeld ?_
        refine one_ (i := 10) (N := some 37) #[true, true, true, true, true, true, true, true, true, true, true, true, false, true, true, true, true, false, true, false, false, false] rfl rfl (Zbk HT_.out (by kernel_rfl)) (by decide) (fun K hK => ?_)
        refine Zb0 Tryd.func54 (by kernel_rfl) rfl #[.agg #[.int .i64 l, .int .i64 m, .slice z g.length A, .slice u d.length v], .int .i64 j, .int .i64 c] (by rfl) rfl rfl (by (try simp only [List.map_toArray, List.map_cons, List.map_nil]); first | done | rfl | (simp only [List.length_drop, List.length_take]; rfl)) ?_
        with_reducible refine (Zbl.calls l m _ _ g _ _ d j c T _ ?side1 ?side2 ?side3 ?side4 aS.out).mono ?_
        (case side1 => exact cP (zE J.out HB.out))
        (case side2 => exact L.out)
        (case side3 => exact cP (zE G.out HB.out))
        (case side4 => exact I.out)
        rintro e bD ⟨rfl, hb⟩
        refine ⟨_, rfl, ?_⟩
        replace a := mA (blkB a.out hb)
        replace b := mA (blkB b.out hb)
        replace HB := mA (Zac (bW) hb)
        (try clear hb)
        (try clear hb2)
        (try clear hk)
        (try clear hi)
        refine hK.out _ _ ⟨bc b 0, bc b 1, bc a 0, bc a 1, bc a 2, bc a 3⟩ (fun hHeld => ?_)
        clear hK K
        refine putS 37 ?_
        refine one_ (i := 12) (N := some 39) #[true, true, true, true, true, true, true, true, true, true, true, true, true, true, true, true, true, false, true, false, false, false] rfl rfl (Zbk HT_.out (by kernel_rfl)) (by decide) (fun K hK => ?_)
        refine Zb0 Tryd.func54 (by kernel_rfl) rfl #[.agg #[.int .i64 l, .int .i64 m, .slice z g.length A, .slice u d.length v], .int .i64 T, .int .i64 q] (by rfl) rfl rfl (by (try simp only [List.map_toArray, List.map_cons, List.map_nil]); first | done | rfl | (simp only [List.length_drop, List.length_take]; rfl)) ?_
        with_reducible refine (Zbl.calls l m _ _ g _ _ d T q O _ ?side1 ?side2 ?side3 ?side4 aT.out).mono ?_
        (case side1 => exact cP (zE J.out HB.out))
        (case side2 => exact L.out)
        (case side3 => exact cP (zE G.out HB.out))
        (case side4 => exact I.out)
        rintro e bF ⟨rfl, hb⟩
        refine ⟨_, rfl, ?_⟩
        replace a := mA (blkB a.out hb)
        replace b := mA (blkB b.out hb)
        replace HB := mA (Zac (bW) hb)
        (try clear hb)
        (try clear hb2)
        (try clear hk)
        (try clear hi)
        refine hK.out _ _ ⟨bc b 0, bc b 1, bc a 0, bc a 1, bc a 2, bc a 3⟩ (fun hHeld => ?_)
        clear hK K
        refine putS 39 ?_
        refine one_ (i := 17) (N := some 44) #[true, true, true, true, true, true, true, true, true, true, true, true, true, true, true, true, true, true, true, false, false, false] rfl rfl (Zbk HT_.out (by kernel_rfl)) (by decide) (fun K hK => ?_)
        refine Zb0 Tryd.func54 (by kernel_rfl) rfl #[.agg #[.int .i64 l, .int .i64 m, .slice z g.length A, .slice u d.length v], .int .i64 j, .int .i64 q] (by rfl) rfl rfl (by (try simp only [List.map_toArray, List.map_cons, List.map_nil]); first | done | rfl | (simp only [List.length_drop, List.length_take]; rfl)) ?_
        with_reducible refine (Zbl.calls l m _ _ g _ _ d j q U _ ?side1 ?side2 ?side3 ?side4 aU.out).mono ?_
        (case side1 => exact cP (zE J.out HB.out))
        (case side2 => exact L.out)
        (case side3 => exact cP (zE G.out HB.out))
        (case side4 => exact I.out)
        rintro e bG ⟨rfl, hb⟩
        refine ⟨_, rfl, ?_⟩
        replace a := mA (blkB a.out hb)
        replace b := mA (blkB b.out hb)
        replace HB := mA (Zac (bW) hb)
        (try clear hb)
        (try clear hb2)
        (try clear hk)
        (try clear hi)
        refine hK.out _ _ ⟨bc b 0, bc b 1, bc a 0, bc a 1, bc a 2, bc a 3⟩ (fun hHeld => ?_)
        clear hK K
        refine putS 44 ?_
        refine one_ (i := 19) (N := some 46) #[true, true, true, true, true, true, true, true, true, true, true, true, true, true, true, true, true, true, true, true, false, false] rfl rfl (Zbk HT_.out (by kernel_rfl)) (by decide) (fun K hK => ?_)
        refine Zb0 Tryd.func54 (by kernel_rfl) rfl #[.agg #[.int .i64 l, .int .i64 m, .slice z g.length A, .slice u d.length v], .int .i64 U, .int .i64 c] (by rfl) rfl rfl (by (try simp only [List.map_toArray, List.map_cons, List.map_nil]); first | done | rfl | (simp only [List.length_drop, List.length_take]; rfl)) ?_
        with_reducible refine (Zbl.calls l m _ _ g _ _ d U c P _ ?side1 ?side2 ?side3 ?side4 aV.out).mono ?_
        (case side1 => exact cP (zE J.out HB.out))
        (case side2 => exact L.out)
        (case side3 => exact cP (zE G.out HB.out))
        (case side4 => exact I.out)
        rintro e bH ⟨rfl, hb⟩
        refine ⟨_, rfl, ?_⟩
        replace a := mA (blkB a.out hb)
        replace b := mA (blkB b.out hb)
        replace HB := mA (Zac (bW) hb)
        (try clear hb)
        (try clear hb2)
        (try clear hk)
        (try clear hi)
        refine hK.out _ _ ⟨bc b 0, bc b 1, bc a 0, bc a 1, bc a 2, bc a 3⟩ (fun hHeld => ?_)
        clear hK K
        refine putS 46 ?_
        refine Zaq (i := 20) (N := some 47) (Zam HT_.out (by kernel_rfl)) ?_
        refine Zaq (i := 21) (N := some 48) (Zam HT_.out (by kernel_rfl)) ?_
        refine Zcx (Zcv HT_.out (by kernel_rfl)) ?_
        try go_wp2
        go_roundg k3
        case measure => have := W.out; have := X.out; have := ad.out; omega
        case rel => exact ⟨(wrap64 (q + 1)), (eW), H', ⟨by have := W.out; have := X.out; have := ad.out; omega⟩, ⟨bP a.out⟩, ⟨bP b.out⟩, ⟨bW⟩⟩
       rw [if_neg aa] at H
       have aO : (O == P) = false := beq_eq_false_iff_ne.mpr aa
       have aP : (O != P) = true := bne_iff_ne.mpr aa
       obtain ⟨bz, ah⟩ : ∃ y_ : List Int, y_ = (([j, c, q] : List Int)) := ⟨_, rfl⟩
       rw [← ah] at H
       have aq := mA ah
       clear ah
       obtain rfl := oI H
       have bp := D.out
       have bq := B.out
       have a9 : wr.cell? ⟨s, 0, none⟩ = some (.int .i64 o) := bc b 0
       have ba : wr.cell? ⟨s, 1, none⟩ = some (.slice x p.length y) := bc b 1
       have bb := Zab b.out 0
       have bd := Zab b.out 1
       try go_wp2
       replace a := mA (Zad a.out)
       replace b := mA (Zad b.out)
       replace HB := mA (Zax HB.out)
       refine Zcd (n := 22) (S := fun w' => w'.cell? ⟨s, 0, none⟩ = some (.int .i64 o) ∧ w'.cell? ⟨s, 1, none⟩ = some (.slice x p.length y) ∧ w'.cell? ⟨E, 0, none⟩ = some (.int .i64 l) ∧ w'.cell? ⟨E, 1, none⟩ = some (.int .i64 m) ∧ w'.cell? ⟨E, 2, none⟩ = some (.slice z g.length A) ∧ w'.cell? ⟨E, 3, none⟩ = some (.slice u d.length v)) (ds := []) #[false, false, false, false, false, false, false, false, false, false, false, false, false, false, false, false, false, false, false, false, false, false] (by kernel_rfl) rfl rfl ⟨bc b 0, bc b 1, bc a 0, bc a 1, bc a 2, bc a 3⟩ (fun hHeld => ?_); refine Zb8 Zal.tab10 Zal.bits10 (fun HT_ HW_ => ?_)
       generalize wr.drew = w34 at a b HB hHeld ⊢
       refine Zaq (i := 1) (N := some 28) (Zam HT_.out (by kernel_rfl)) ?_
       refine Zaq (i := 2) (N := some 29) (Zam HT_.out (by kernel_rfl)) ?_
       refine Za7 (i := 0) (N := some 27) (Za1 HT_.out HW_.out (by kernel_rfl)) hHeld ?_
       refine one_ (i := 3) (N := some 30) #[true, true, true, true, false, false, false, false, false, false, false, false, false, false, false, false, false, false, false, false, false, false] rfl rfl (Zbk HT_.out (by kernel_rfl)) (by decide) (fun K hK => ?_)
       refine Zb0 Tryd.func33 (by kernel_rfl) rfl #[.agg #[.int .i64 o, .slice x p.length y], .int .i64 c, .int .i64 q] (by rfl) rfl rfl (by (try simp only [List.map_toArray, List.map_cons, List.map_nil]); first | done | rfl | (simp only [List.length_drop, List.length_take]; rfl)) ?_
       with_reducible refine (Zdm.calls o _ _ p c q false _ ?side1 ?side2 aI.out).mono ?_
       (case side1 => exact cP (zE af.out HB.out))
       (case side2 => exact ag.out)
       rintro e bI ⟨rfl, hb⟩
       refine ⟨_, rfl, ?_⟩
       replace a := mA (blkB a.out hb)
       replace b := mA (blkB b.out hb)
       replace HB := mA (Zac (bW) hb)
       (try clear hb)
       (try clear hb2)
       (try clear hk)
       (try clear hi)
       refine hK.out _ _ ⟨bc b 0, bc b 1, bc a 0, bc a 1, bc a 2, bc a 3⟩ (fun hHeld => ?_)
       clear hK K
       refine putS 30 ?_
       refine Zaq (i := 4) (N := some 31) (Zam HT_.out (by kernel_rfl)) ?_
       refine Zaq (i := 5) (N := some 32) (Zam HT_.out (by kernel_rfl)) ?_
       refine Zaq (i := 8) (N := some 35) (Zam HT_.out (by kernel_rfl)) ?_
       refine Zaq (i := 9) (N := some 36) (Zam HT_.out (by kernel_rfl)) ?_
       refine Zaq (i := 11) (N := some 38) (Zam HT_.out (by kernel_rfl)) ?_
       refine Zaq (i := 15) (N := some 42) (Zam HT_.out (by kernel_rfl)) ?_
       refine Zaq (i := 16) (N := some 43) (Zam HT_.out (by kernel_rfl)) ?_
       refine Zaq (i := 18) (N := some 45) (Zam HT_.out (by kernel_rfl)) ?_
       refine Za7 (i := 6) (N := some 33) (Za1 HT_.out HW_.out (by kernel_rfl)) hHeld ?_
       refine Za7 (i := 7) (N := some 34) (Za1 HT_.out HW_.out (by kernel_rfl)) hHeld ?_
       refine Za7 (i := 13) (N := some 40) (Za1 HT_.out HW_.out (by kernel_rfl)) hHeld ?_
       refine Za7 (i := 14) (N := some 41) (Za1 HT_.out HW_.out (by kernel_rfl)) hHeld ?_
       refine one_ (i := 10) (N := some 37) #[true, true, true, true, true, true, true, true, true, true, true, true, false, true, true, true, true, false, true, false, false, false] rfl rfl (Zbk HT_.out (by kernel_rfl)) (by decide) (fun K hK => ?_)
       refine Zb0 Tryd.func54 (by kernel_rfl) rfl #[.agg #[.int .i64 l, .int .i64 m, .slice z g.length A, .slice u d.length v], .int .i64 j, .int .i64 c] (by rfl) rfl rfl (by (try simp only [List.map_toArray, List.map_cons, List.map_nil]); first | done | rfl | (simp only [List.length_drop, List.length_take]; rfl)) ?_
       with_reducible refine (Zbl.calls l m _ _ g _ _ d j c T _ ?side1 ?side2 ?side3 ?side4 aS.out).mono ?_
       (case side1 => exact cP (zE J.out HB.out))
       (case side2 => exact L.out)
       (case side3 => exact cP (zE G.out HB.out))
       (case side4 => exact I.out)
       rintro e bJ ⟨rfl, hb⟩
       refine ⟨_, rfl, ?_⟩
       replace a := mA (blkB a.out hb)
       replace b := mA (blkB b.out hb)
       replace HB := mA (Zac (bW) hb)
       (try clear hb)
       (try clear hb2)
       (try clear hk)
       (try clear hi)
       refine hK.out _ _ ⟨bc b 0, bc b 1, bc a 0, bc a 1, bc a 2, bc a 3⟩ (fun hHeld => ?_)
       clear hK K
       refine putS 37 ?_
       refine one_ (i := 12) (N := some 39) #[true, true, true, true, true, true, true, true, true, true, true, true, true, true, true, true, true, false, true, false, false, false] rfl rfl (Zbk HT_.out (by kernel_rfl)) (by decide) (fun K hK => ?_)
       refine Zb0 Tryd.func54 (by kernel_rfl) rfl #[.agg #[.int .i64 l, .int .i64 m, .slice z g.length A, .slice u d.length v], .int .i64 T, .int .i64 q] (by rfl) rfl rfl (by (try simp only [List.map_toArray, List.map_cons, List.map_nil]); first | done | rfl | (simp only [List.length_drop, List.length_take]; rfl)) ?_
       with_reducible refine (Zbl.calls l m _ _ g _ _ d T q O _ ?side1 ?side2 ?side3 ?side4 aT.out).mono ?_
       (case side1 => exact cP (zE J.out HB.out))
       (case side2 => exact L.out)
       (case side3 => exact cP (zE G.out HB.out))
       (case side4 => exact I.out)
       rintro e bK ⟨rfl, hb⟩
       refine ⟨_, rfl, ?_⟩
       replace a := mA (blkB a.out hb)
       replace b := mA (blkB b.out hb)
       replace HB := mA (Zac (bW) hb)
       (try clear hb)
       (try clear hb2)
       (try clear hk)
       (try clear hi)
       refine hK.out _ _ ⟨bc b 0, bc b 1, bc a 0, bc a 1, bc a 2, bc a 3⟩ (fun hHeld => ?_)
       clear hK K
       refine putS 39 ?_
       refine one_ (i := 17) (N := some 44) #[true, true, true, true, true, true, true, true, true, true, true, true, true, true, true, true, true, true, true, false, false, false] rfl rfl (Zbk HT_.out (by kernel_rfl)) (by decide) (fun K hK => ?_)
       refine Zb0 Tryd.func54 (by kernel_rfl) rfl #[.agg #[.int .i64 l, .int .i64 m, .slice z g.length A, .slice u d.length v], .int .i64 j, .int .i64 q] (by rfl) rfl rfl (by (try simp only [List.map_toArray, List.map_cons, List.map_nil]); first | done | rfl | (simp only [List.length_drop, List.length_take]; rfl)) ?_
       with_reducible refine (Zbl.calls l m _ _ g _ _ d j q U _ ?side1 ?side2 ?side3 ?side4 aU.out).mono ?_
       (case side1 => exact cP (zE J.out HB.out))
       (case side2 => exact L.out)
       (case side3 => exact cP (zE G.out HB.out))
       (case side4 => exact I.out)
       rintro e bL ⟨rfl, hb⟩
       refine ⟨_, rfl, ?_⟩
       replace a := mA (blkB a.out hb)
       replace b := mA (blkB b.out hb)
       replace HB := mA (Zac (bW) hb)
       (try clear hb)
       (try clear hb2)
       (try clear hk)
       (try clear hi)
       refine hK.out _ _ ⟨bc b 0, bc b 1, bc a 0, bc a 1, bc a 2, bc a 3⟩ (fun hHeld => ?_)
       clear hK K
       refine putS 44 ?_
       refine one_ (i := 19) (N := some 46) #[true, true, true, true, true, true, true, true, true, true, true, true, true, true, true, true, true, true, true, true, false, false] rfl rfl (Zbk HT_.out (by kernel_rfl)) (by decide) (fun K hK => ?_)
       refine Zb0 Tryd.func54 (by kernel_rfl) rfl #[.agg #[.int .i64 l, .int .i64 m, .slice z g.length A, .slice u d.length v], .int .i64 U, .int .i64 c] (by rfl) rfl rfl (by (try simp only [List.map_toArray, List.map_cons, List.map_nil]); first | done | rfl | (simp only [List.length_drop, List.length_take]; rfl)) ?_
       with_reducible refine (Zbl.calls l m _ _ g _ _ d U c P _ ?side1 ?side2 ?side3 ?side4 aV.out).mono ?_
       (case side1 => exact cP (zE J.out HB.out))
       (case side2 => exact L.out)
       (case side3 => exact cP (zE G.out HB.out))
       (case side4 => exact I.out)
       rintro e bM ⟨rfl, hb⟩
       refine ⟨_, rfl, ?_⟩
       replace a := mA (blkB a.out hb)
       replace b := mA (blkB b.out hb)
       replace HB := mA (Zac (bW) hb)
       (try clear hb)
       (try clear hb2)
       (try clear hk)
       (try clear hi)
       refine hK.out _ _ ⟨bc b 0, bc b 1, bc a 0, bc a 1, bc a 2, bc a 3⟩ (fun hHeld => ?_)
       clear hK K
       refine putS 46 ?_
       refine Zaq (i := 20) (N := some 47) (Zam HT_.out (by kernel_rfl)) ?_
       refine Zaq (i := 21) (N := some 48) (Zam HT_.out (by kernel_rfl)) ?_
       refine Zcx (Zcv HT_.out (by kernel_rfl)) ?_
       try go_wp2_with (first | ((with_reducible refine Zao (N := 52) rfl ?_); refine yM (Kd.int .i64) _ 2 ?hg (N := 52) ?hd (xs := ([j, c, q] : List Int)) (inner := [.int .i64 j, .int .i64 c, .int .i64 q]) (ok := fun _ => True) (okp := fun _ => True) ?hr ?hp (fun _ hk => hk) trivial (Below.refl _ _) (Nat.le_refl _) (by simp) ?_; (case hd => rfl); (case hg => rfl); (case hr => first | (go_simp; done) | (go_simp; rfl)); (case hp => exact (Reps.one (show Kd.M (Kd.int .i64) _ _ _ j [.int .i64 j] from rfl) (Reps.one (show Kd.M (Kd.int .i64) _ _ _ c [.int .i64 c] from rfl) (Reps.one (show Kd.M (Kd.int .i64) _ _ _ q [.int .i64 q] from rfl) (Reps.none _ _))))); intro bA bN ab hb hg_ hnew_; clear hg_ hnew_; (first | rw [← aq.out] at ab | (simp only [Int.reduceToNat] at ab; rw [← aq.out] at ab)); have aQ := mA (zN ab (Zah (bW))); replace a := mA (blkB a.out hb); replace b := mA (blkB b.out hb); replace HB := mA (Zac (bW) hb); clear hb ab))
       go_ret
       exact ⟨_, eW, (rP aQ.out), bW, nlW⟩
end Go.Proofs.YtgindgodfcfgkaaDoor.P
end M0
