import Derived.Test.YtjdkedmdeajmgaaDoorCFnExactNormalAutomaton2
set_option maxHeartbeats 8000000
set_option maxRecDepth 100000
section M0
namespace Go.Proofs.YtjdkedmdeajmgaaDoor.P
open Go.RowKit Go.Proofs.YtjdkedmdeajmgaaDoor.Sh Go.Proofs.YtjdkedmdeajmgaaDoorW.PrintWords Go.Proofs.YtjdkedmdeajmgaaDoorW.PrintLast Go.Proofs.YtjdkedmdeajmgaaDoorW.PrintMore
open Kd
attribute [local go_sem] Zcf Zch Zcv Zcu Zb6 Zb7 Zcg Zce   -- for this text's walks alone
set_option linter.unusedVariables false
set_option linter.unusedSimpArgs false
def Zbf.l0 : Nat → List Int → List Int → Int → Option (Bool)
 | 0, _, _, _ => none
 | k + 1, x0, x1, x5 => if x5 < (x0.length : Int) then (if 0 ≤ x5 then (if x5 < (x1.length : Int) then (if (rd x0 x5) = (rd x1 x5) then (Zbf.l0 k x0 x1 (wrap64 (x5 + 1))) else (some false)) else (none)) else (none)) else (some true)
def Zbf.f (k : Nat) (l0 : List Int) (l1 : List Int) : Option (Bool) := if (l0.length : Int) = (l1.length : Int) then (Zbf.l0 k l0 l1 0) else (some false)
theorem Zbf.calls (k : Nat) (A0 : Option Addr) (c0 : Nat) (l0 : List Int) (A1 : Option Addr) (c1 : Nat) (l1 : List Int) (r : Bool) (w : World) (t : Kd.C (Kd.int .i64) w A0 l0.length l0) (u : l0.length ≤ c0) (v : Kd.C (Kd.int .i64) w A1 l1.length l1) (x : l1.length ≤ c1) (h : Zbf.f k l0 l1 = some r) :
  Calls Tryd.prog 53 #[.slice A0 l0.length c0, .slice A1 l1.length c1] w fun e w' => e = .returned (.bool r) ∧ Zaw w w' := by
 have y := mA t
 have I := mA u
 clear t u
 have z := mA v
 have J := mA x
 clear v x
 unfold Zbf.f at h
 have H := h
 clear h
 by_cases c3 : (l0.length : Int) = (l1.length : Int); rotate_left
 ·rw [if_neg c3] at H
  have n : ((l0.length : Int) == (l1.length : Int)) = false := beq_eq_false_iff_ne.mpr c3
  have o : ((l0.length : Int) != (l1.length : Int)) = true := bne_iff_ne.mpr c3
  have p : (l0.length == l1.length) = false := by first | simpa using c3 | (simp at c3 ⊢; omega)
  obtain rfl := oI H
  go_enter Tryd.func53, Tryd.ntmps53
  go_wp2
  repeat (go_quiet (fail); try go_wp2)
  go_ret
  exact ⟨eW, by repeat (first | exact Zaw.refl _ | apply Zaw.step)⟩
 rw [if_pos c3] at H
 have n : ((l0.length : Int) == (l1.length : Int)) = true := beq_iff_eq.mpr c3
 have o : ((l0.length : Int) != (l1.length : Int)) = false := bne_eq_false_iff_eq.mpr c3
 have p : (l0.length == l1.length) = true := by first | simpa using c3 | (simp at c3 ⊢; omega)
 clear c3
 have H' := mA H
 clear H
 go_enter Tryd.func53, Tryd.ntmps53
 go_wp2
 repeat (go_quiet (fail); try go_wp2)
 go_loopg [5] k (fun kq v5 w' => ∃ (a : Int), v5 = .int .i64 a ∧ Zac (Zbf.l0 kq l0 l1 a = some r) ∧ Zac (kq ≤ k) ∧ Zaw w w')
 case atStart => exact ⟨(0), (eW), H', ⟨Nat.le_refl _⟩, by repeat (first | exact Zaw.refl _ | apply Zaw.step)⟩
 case round =>
  clear H' n o p
  obtain ⟨a, rfl, HA, HK1, ⟨m1, rfl⟩⟩ := hrel
  cases gk with
  | zero => exact absurd HA.out (by simp [Zbf.l0])
  | succ k1 =>
   have H := HA.out
   clear HA
   simp only [Zbf.l0] at H
   by_cases c4 : a < (l0.length : Int); rotate_left
   ·rw [if_neg c4] at H
    have A := dF c4
    clear c4
    obtain rfl := oI H
    go_wp2
    repeat (go_quiet (fail); try go_wp2)
    go_ret
    exact ⟨eW, by repeat (first | exact Zaw.refl _ | apply Zaw.step)⟩
   rw [if_pos c4] at H
   have A := dT c4
   clear c4
   obtain ⟨E, H⟩ := gE H
   obtain ⟨G, H⟩ := gE H
   by_cases c7 : (rd l0 a) = (rd l1 a); rotate_left
   ·rw [if_neg c7] at H
    have B : ((rd l0 a) == (rd l1 a)) = false := beq_eq_false_iff_ne.mpr c7
    have D : ((rd l0 a) != (rd l1 a)) = true := bne_iff_ne.mpr c7
    obtain rfl := oI H
    have b : 0 ≤ (a : Int) := ofD
    have c : a < (l0.length : Int) := ofD
    obtain ⟨q, i, l⟩ := zO y.out a b c
    cases i
    replace b := eq_true b
    replace c := eq_true c
    have d : 0 ≤ (a : Int) := ofD
    have g : a < (l1.length : Int) := ofD
    obtain ⟨s, j, m⟩ := zO z.out a d g
    cases j
    replace d := eq_true d
    replace g := eq_true g
    go_wp2
    repeat (go_quiet (fail); try go_wp2)
    go_ret
    exact ⟨eW, by repeat (first | exact Zaw.refl _ | apply Zaw.step)⟩
   rw [if_pos c7] at H
   have B : ((rd l0 a) == (rd l1 a)) = true := beq_iff_eq.mpr c7
   have D : ((rd l0 a) != (rd l1 a)) = false := bne_eq_false_iff_eq.mpr c7
   clear c7
   have H' := mA H
   clear H
   have b : 0 ≤ (a : Int) := ofD
   have c : a < (l0.length : Int) := ofD
   obtain ⟨q, i, l⟩ := zO y.out a b c
   cases i
   replace b := eq_true b
   replace c := eq_true c
   have d : 0 ≤ (a : Int) := ofD
   have g : a < (l1.length : Int) := ofD
   obtain ⟨s, j, m⟩ := zO z.out a d g
   cases j
   replace d := eq_true d
   replace g := eq_true g
   go_wp2
   repeat (go_quiet (fail); try go_wp2)
   go_roundg k1
   case measure => have := HK1.out; omega
   case rel => exact ⟨(wrap64 (a + 1)), (eW), H', ⟨by have := HK1.out; omega⟩, by repeat (first | exact Zaw.refl _ | apply Zaw.step)⟩
def Zdb.f (k : Nat) (a : Int) (b : List Int) (c : Int) (d : List Int) : Option (Bool) := if a = c then ((Zbf.f k b d).bind fun e => (if e = true then (some true) else (some false))) else (some false)
theorem Zdb.calls (k : Nat) (j : Int) (m : Option Addr) (n : Nat) (d : List Int) (l : Int) (o : Option Addr) (p : Nat) (g : List Int) (r : Bool) (w : World) (q : Kd.C (Kd.int .i64) w m d.length d) (s : d.length ≤ n) (u : Kd.C (Kd.int .i64) w o g.length g) (v : g.length ≤ p) (h : Zdb.f k j d l g = some r) :
  Calls Tryd.prog 15 #[.agg #[.int .i64 j, .slice m d.length n], .agg #[.int .i64 l, .slice o g.length p]] w fun e w' => e = .returned (.bool r) ∧ Below w.heap.size w w' := by
 have ax := Tryd.underlying30
 have x := mA q
 have y := mA s
 clear q s
 have z := mA u
 have A := mA v
 clear u v
 have HB := mA (Below.refl w.heap.size w)
 unfold Zdb.f at h
 have H := h
 clear h
 by_cases c3 : j = l; rotate_left
 ·rw [if_neg c3] at H
  have K : (j == l) = false := beq_eq_false_iff_ne.mpr c3
  have L : (j != l) = true := bne_iff_ne.mpr c3
  obtain rfl := oI H
  go_enter Tryd.func15, Tryd.ntmps15
  go_wp2_with (first | ((with_reducible refine Zat (N := 2) rfl ?_); refine boxS (N := 2) (cs := #[.int .i64 j, .slice m d.length n]) (t := 30) ?_; intro B hg aA hbox hb; have a := mA (hbox); have D := geW (w := w) hg; have E := geW (w := w) hg; replace HB := mA (Zaf (bW) hb); clear hb hbox hg) | ((with_reducible refine Zat (N := 3) rfl ?_); refine boxS (N := 3) (cs := #[.int .i64 l, .slice o g.length p]) (t := 30) ?_; intro G hg aB hbox hb; have i := mA (hbox); have I := geW (w := w) hg; have J := geW (w := w) hg; replace HB := mA (Zaf (bW) hb); have b := mA (neB hg a); have c := mA (neC hg a); replace a := mA (blkB a.out hb); clear hb hbox hg; have ar := b.out; have au := c.out; obtain ⟨O, P⟩ := Zcj a.out; obtain ⟨T, U⟩ := frz2 a.out; obtain ⟨W, X⟩ := Zcj i.out; obtain ⟨Y, aa⟩ := frz2 i.out))
  go_ret
  exact ⟨eW, bW⟩
 rw [if_pos c3] at H
 have K : (j == l) = true := beq_iff_eq.mpr c3
 have L : (j != l) = false := bne_eq_false_iff_eq.mpr c3
 clear c3
 obtain ⟨M, A4, H⟩ := bA H
 by_cases c5 : M = true
 ·subst c5
  rw [if_pos rfl] at H
  obtain rfl := oI H
  go_enter Tryd.func15, Tryd.ntmps15
  go_wp2_with (first | ((with_reducible refine Zat (N := 2) rfl ?_); refine boxS (N := 2) (cs := #[.int .i64 j, .slice m d.length n]) (t := 30) ?_; intro B hg w6 hbox hb; have a := mA (hbox); have D := geW (w := w) hg; have E := geW (w := w) hg; replace HB := mA (Zaf (bW) hb); clear hb hbox hg) | ((with_reducible refine Zat (N := 3) rfl ?_); refine boxS (N := 3) (cs := #[.int .i64 l, .slice o g.length p]) (t := 30) ?_; intro G hg w7 hbox hb; have i := mA (hbox); have I := geW (w := w) hg; have J := geW (w := w) hg; replace HB := mA (Zaf (bW) hb); have b := mA (neB hg a); have c := mA (neC hg a); replace a := mA (blkB a.out hb); clear hb hbox hg; have ay := b.out; have az := c.out; obtain ⟨an, ao⟩ := Zcj a.out; obtain ⟨ap, aq⟩ := frz2 a.out; obtain ⟨ab, ac⟩ := Zcj i.out; obtain ⟨ad, ae⟩ := frz2 i.out) | ((with_reducible refine Zax (f := 53) rfl ?_); refine Zbi (some 14) Tryd.func53 #[.slice m d.length n, .slice o g.length p] ?_; (with_reducible refine (Zbf.calls k _ _ d _ _ g true _ ?side1 ?side2 ?side3 ?side4 A4.out).mono ?_); (case side1 => exact cP (zQ x.out HB.out)); (case side2 => exact y.out); (case side3 => exact cP (zQ z.out HB.out)); (case side4 => exact A.out); rintro e w' ⟨rfl, ⟨nd, rfl⟩⟩; refine ⟨_, rfl, ?_⟩))
  go_ret
  exact ⟨eW, bW⟩
 replace c5 := Bool.eq_false_iff.mpr c5
 subst c5
 rw [iF] at H
 obtain rfl := oI H
 go_enter Tryd.func15, Tryd.ntmps15
 go_wp2_with (first | ((with_reducible refine Zat (N := 2) rfl ?_); refine boxS (N := 2) (cs := #[.int .i64 j, .slice m d.length n]) (t := 30) ?_; intro B hg aC hbox hb; have a := mA (hbox); have D := geW (w := w) hg; have E := geW (w := w) hg; replace HB := mA (Zaf (bW) hb); clear hb hbox hg) | ((with_reducible refine Zat (N := 3) rfl ?_); refine boxS (N := 3) (cs := #[.int .i64 l, .slice o g.length p]) (t := 30) ?_; intro G hg aD hbox hb; have i := mA (hbox); have I := geW (w := w) hg; have J := geW (w := w) hg; replace HB := mA (Zaf (bW) hb); have b := mA (neB hg a); have c := mA (neC hg a); replace a := mA (blkB a.out hb); clear hb hbox hg; have av := b.out; have aw := c.out; obtain ⟨af, ag⟩ := Zcj a.out; obtain ⟨ah, ai⟩ := frz2 a.out; obtain ⟨aj, ak⟩ := Zcj i.out; obtain ⟨al, am⟩ := frz2 i.out) | ((with_reducible refine Zax (f := 53) rfl ?_); refine Zbi (some 14) Tryd.func53 #[.slice m d.length n, .slice o g.length p] ?_; (with_reducible refine (Zbf.calls k _ _ d _ _ g false _ ?side1 ?side2 ?side3 ?side4 A4.out).mono ?_); (case side1 => exact cP (zQ x.out HB.out)); (case side2 => exact y.out); (case side3 => exact cP (zQ z.out HB.out)); (case side4 => exact A.out); rintro e w' ⟨rfl, ⟨nd, rfl⟩⟩; refine ⟨_, rfl, ?_⟩))
 go_ret
 exact ⟨eW, bW⟩
end Go.Proofs.YtjdkedmdeajmgaaDoor.P
end M0
section M1
namespace Go.Proofs.YtjdkedmdeajmgaaDoor.P
open Go.RowKit Go.Proofs.YtjdkedmdeajmgaaDoor.Sh Go.Proofs.YtjdkedmdeajmgaaDoorW.PrintWords Go.Proofs.YtjdkedmdeajmgaaDoorW.PrintLast Go.Proofs.YtjdkedmdeajmgaaDoorW.PrintMore
open Kd
attribute [local go_sem] Zcf Zch Zcv Zcu Zb6 Zb7 Zcg Zce   -- for this text's walks alone
set_option linter.unusedVariables false
set_option linter.unusedSimpArgs false
mutual
def Zaz.l0 : Nat → List Bool → Bool → Int → List (List Int) → List Bool → Option (List Bool)
 | 0, _, _, _, _, _ => none
 | k + 1, x3, x4, a, b, c => if x4 = true then (Zaz.l1 k x3 false 0 a b c) else (some x3)
def Zaz.l1 : Nat → List Bool → Bool → Int → Int → List (List Int) → List Bool → Option (List Bool)
 | 0, _, _, _, _, _, _ => none
 | k + 1, x3, x4, x5, b, a, c => if x5 < (a.length : Int) then (Zaz.l2 k x3 x4 x5 0 b a c) else (Zaz.l0 k x3 x4 b a c)
def Zaz.l2 : Nat → List Bool → Bool → Int → Int → Int → List (List Int) → List Bool → Option (List Bool)
 | 0, _, _, _, _, _, _, _ => none
 | k + 1, x3, x4, x5, x6, b, a, c => if 0 ≤ x5 then (if x5 < (a.length : Int) then (if x6 < ((Zam a x5).length : Int) then (if x5 < (x3.length : Int) then (Zaz.j3 k x3 x4 x5 x6 (!(rdOf false x3 x5)) b a c) else (none)) else (Zaz.j3 k x3 x4 x5 x6 false b a c)) else (none)) else (none)
def Zaz.j3 : Nat → List Bool → Bool → Int → Int → Bool → Int → List (List Int) → List Bool → Option (List Bool)
 | 0, _, _, _, _, _, _, _, _ => none
 | k + 1, x3, x4, x5, x6, d, b, a, c => if d = true then (if 0 ≤ x5 then (if x5 < (a.length : Int) then (if 0 ≤ x6 then (if x6 < ((Zam a x5).length : Int) then (if (rd (Zam a x5) x6) ≥ 0 then (if 0 ≤ (rd (Zam a x5) x6) then (if (rd (Zam a x5) x6) < (x3.length : Int) then (if rdOf false x3 (rd (Zam a x5) x6) = true then (if x5 < (x3.length : Int) then (Zaz.l2 k (x3.set (x5 : Int).toNat true) true x5 (wrap64 (x6 + 1)) b a c) else (none)) else (Zaz.l2 k x3 x4 x5 (wrap64 (x6 + 1)) b a c)) else (none)) else (none)) else (Zaz.l2 k x3 x4 x5 (wrap64 (x6 + 1)) b a c)) else (none)) else (none)) else (none)) else (none)) else (Zaz.l1 k x3 x4 (wrap64 (x5 + 1)) b a c)
end
def Zaz.f (k : Nat) (c : Int) (d : List (List Int)) (a : List Bool) : Option (List Bool) := (some (([] : List Bool) : List Bool)).bind fun b => (if b.length + a.length < 140737488355328 then (Zaz.l0 k (b ++ a) true c d a) else (none))
theorem Zaz.calls (k : Nat) (n : Int) (z : Option Addr) (u : Nat) (d : List (List Int)) (v : Option Addr) (x : Nat) (l : List Bool) (r : List Bool) (w : World) (aJ : Kd.C (Kd.slice 2 (Kd.int .i64)) w z d.length d) (aK : d.length ≤ u) (aM : Kd.C Kd.bool w v l.length l) (aN : l.length ≤ x) (h : Zaz.f k n d l = some r) :
  Calls Tryd.prog 42 #[.agg #[.int .i64 n, .slice z d.length u, .slice v l.length x]] w fun e w' => ∃ bv : Value, e = .returned (bv) ∧ Kd.R Kd.bool 4 w' w.heap.size (fun _ => True) bv r ∧ Below w.heap.size w w' := by
 have cD := Tryd.underlying66
 have ad := mA aJ
 have co := mA aK
 clear aJ aK
 have bo := mA aM
 have cp := mA aN
 clear aM aN
 have HB := mA (Below.refl w.heap.size w)
 unfold Zaz.f at h
 have H := h
 clear h
 obtain ⟨az, am⟩ : ∃ y_ : List Bool, y_ = (([] : List Bool)) := ⟨_, rfl⟩
 replace H := bsm am H
 have aP := mA am
 clear am
 by_cases c2 : az.length + l.length < 140737488355328; rotate_left
 ·rw [if_neg c2] at H
  exact absurd H (by simp)
 rw [if_pos c2] at H
 have bw := mA c2
 clear c2
 obtain ⟨bx, aQ⟩ := nm ((az ++ l) : List Bool)
 rw [← aQ.out] at H
 have H' := mA H
 clear H
 go_enter Tryd.func42, Tryd.ntmps42
 go_wp2_with (first | ((with_reducible refine Zat (N := 1) rfl ?_); refine boxS (N := 1) (cs := #[.int .i64 n, .slice z d.length u, .slice v l.length x]) (t := 66) ?_; intro i hg w3 hbox hb; have a := mA (hbox); have cq := geW (w := w) hg; have cr := geW (w := w) hg; replace HB := mA (Zaf (bW) hb); clear hb hbox hg) | ((with_reducible refine Zat (N := 8) rfl ?_); refine yP Kd.bool _ 4 ?hg (N := 8) ?hd (xs := ([] : List Bool)) (inner := []) (ok := fun _ => True) (okp := fun _ => True) ?hr ?hp (fun _ hk => hk) trivial (Below.refl _ _) (Nat.le_refl _) (by simp) ?_; (case hd => rfl); (case hg => rfl); (case hr => first | (go_simp; done) | (go_simp; rfl)); (case hp => exact (Reps.none _ _)); intro bz w4 aw hb hg_ hnew_; clear hg_ hnew_; (first | rw [← aP.out] at aw | (simp only [Int.reduceToNat] at aw; rw [← aP.out] at aw)); have an := mA (zS aw (Zaj (bW))); replace a := mA (blkB a.out hb); replace HB := mA (Zaf (bW) hb); clear hb aw; obtain ⟨a6, a7, a8⟩ := cells3 a.out; obtain ⟨a9, ba, bb⟩ := frz3 a.out) | ((with_reducible refine Za6 (b := .append) (xs := #[.tmp 8, .tmp 10]) rfl ?_); at_builtin; refine xE Kd.bool (w0 := w) w.heap.size rfl (.tmp 8) (.tmp 10) 64 4 (.bool false) 1 rfl Tryd.underlying64 info4 rfl (by decide) (by omega) bz az l _ _ _ (fun _ => True) (fun _ => False) rfl rfl ?aO ?aR (fun _ _ h => h) (fun _ h => h.elim) ?aF ?aB ?aS ?aL ?_; (case aR => exact cP (zQ bo.out HB.out)); (case aB => exact (bW)); (case aF => exact (fun _ _ => trivial)); (case aO => exact (rP an.out)); (case aS => exact (Zaj (bW))); (case aL => have := bw.out; omega); intro ao w7 ho hb hg hat; rw [← aQ.out] at ho; replace a := mA (Zah (g := i) (o := .cells #[.int .i64 n, .slice z d.length u, .slice v l.length x] 66 (0, 0)) (bP a.out) hg (zN an.out a.out (by decide))); replace HB := mA (hb); have bp := mA (ho); clear an ho hb hg hat))
 go_loopg [4] k (fun kq v4 w' => ∃ (ap : List Bool) (aq : Bool), v4 = .bool aq ∧ Zac (Zaz.l0 kq ap aq n d l = some r) ∧ Zac (kq ≤ k) ∧ Zac (Kd.R Kd.bool 4 w' w.heap.size (fun _ => True) ao ap) ∧ Zac (w'.heap[i]? = some (.cells #[.int .i64 n, (.slice z d.length u), (.slice v l.length x)] 66 (0, 0))) ∧ Zac (Below w.heap.size w w'))
 case atStart => exact ⟨(bx), (true), (eW), H', ⟨Nat.le_refl _⟩, ⟨rP bp.out⟩, ⟨bP a.out⟩, ⟨bW⟩⟩
 case round =>
  clear H' a6 a7 a8 a9 ba bb
  obtain ⟨ap, aq, rfl, HA, O, m, a, HB⟩ := hrel
  cases gk with
  | zero => exact absurd HA.out (by simp [Zaz.l0])
  | succ k1 =>
   have H := HA.out
   clear HA
   simp only [Zaz.l0] at H
   by_cases c8 : aq = true; rotate_left
   ·replace c8 := Bool.eq_false_iff.mpr c8
    subst c8
    rw [iF] at H
    obtain rfl := oI H
    go_wp2
    go_ret
    exact ⟨_, eW, (rP m.out), bW⟩
   subst c8
   rw [if_pos rfl] at H
   have H' := mA H
   clear H
   go_wp2
   go_loopg [4, 5] k1 (fun kq v4 v5 w' => ∃ (af : List Bool) (ag : Bool) (c : Int), v4 = .bool ag ∧ v5 = .int .i64 c ∧ Zac (Zaz.l1 kq af ag c n d l = some r) ∧ Zac (kq ≤ k1) ∧ Zac (Kd.R Kd.bool 4 w' w.heap.size (fun _ => True) ao af) ∧ Zac (w'.heap[i]? = some (.cells #[.int .i64 n, (.slice z d.length u), (.slice v l.length x)] 66 (0, 0))) ∧ Zac (Below w.heap.size w w'))
   case atStart => exact ⟨(ap), (false), (0), (eW), (eW), H', ⟨Nat.le_refl _⟩, ⟨rP m.out⟩, ⟨bP a.out⟩, ⟨bW⟩⟩
   case round =>
    clear H'
    obtain ⟨af, ag, c, rfl, rfl, HA, P, m, a, HB⟩ := hrel
    cases gk with
    | zero => exact absurd HA.out (by simp [Zaz.l1])
    | succ k2 =>
     have H := HA.out
     clear HA
     simp only [Zaz.l1] at H
     by_cases c9 : c < (d.length : Int); rotate_left
     ·rw [if_neg c9] at H
      have bd := dF c9
      clear c9
      have H' := mA H
      clear H
      have bI : wr.cell? ⟨i, 0, none⟩ = some (.int .i64 n) := bc a 0
      have bJ : wr.cell? ⟨i, 1, none⟩ = some (.slice z d.length u) := bc a 1
      have bK : wr.cell? ⟨i, 2, none⟩ = some (.slice v l.length x) := bc a 2
      have bL := Zae a.out 0
      have bM := Zae a.out 1
      have bN := Zae a.out 2
      go_wp2
      go_roundg k2
      case measure => have := O.out; have := P.out; omega
      case rel => exact ⟨(af), (ag), (eW), H', ⟨by have := O.out; have := P.out; omega⟩, ⟨rP m.out⟩, ⟨bP a.out⟩, ⟨bW⟩⟩
     rw [if_pos c9] at H
     have bd := dT c9
     clear c9
     have H' := mA H
     clear H
     have aY : wr.cell? ⟨i, 0, none⟩ = some (.int .i64 n) := bc a 0
     have aZ : wr.cell? ⟨i, 1, none⟩ = some (.slice z d.length u) := bc a 1
     have a0 : wr.cell? ⟨i, 2, none⟩ = some (.slice v l.length x) := bc a 2
     have a1 := Zae a.out 0
     have a2 := Zae a.out 1
     have a3 := Zae a.out 2
     go_wp2
     go_loopg [4, 6] k2 (fun kq v4 v6 w' => ∃ (y : List Bool) (X : Bool) (j : Int), v4 = .bool X ∧ v6 = .int .i64 j ∧ Zac (Zaz.l2 kq y X c j n d l = some r) ∧ Zac (kq ≤ k2) ∧ Zac (Kd.R Kd.bool 4 w' w.heap.size (fun _ => True) ao y) ∧ Zac (w'.heap[i]? = some (.cells #[.int .i64 n, (.slice z d.length u), (.slice v l.length x)] 66 (0, 0))) ∧ Zac (Below w.heap.size w w'))
     case atStart => exact ⟨(af), (ag), (0), (eW), (eW), H', ⟨Nat.le_refl _⟩, ⟨rP m.out⟩, ⟨bP a.out⟩, ⟨bW⟩⟩
     case round =>
      clear H' bd aY aZ a0 a1 a2 a3
      obtain ⟨y, X, j, rfl, rfl, HA, W, m, a, HB⟩ := hrel
      cases gk with
      | zero => exact absurd HA.out (by simp [Zaz.l2])
      | succ k3 =>
       have H := HA.out
       clear HA
       simp only [Zaz.l2] at H
       have aA := mA H
       clear H
       go_upto_region 9 with (fail)
       go_cut [34] (fun v34 wc => ∃ (kq : Nat) (ae : Bool), v34 = .bool ae ∧ Zac (Zaz.j3 kq y X c j ae n d l = some r) ∧ Zac (kq ≤ k3) ∧ Zac (Kd.R Kd.bool 4 wc w.heap.size (fun _ => True) ao y) ∧ Zac (wc.heap[i]? = some (.cells #[.int .i64 n, (.slice z d.length u), (.slice v l.length x)] 66 (0, 0))) ∧ Zac (Below w.heap.size w wc))
       case first =>
        have H := aA.out
        clear aA
        obtain ⟨aT, H⟩ := gE H
        (first | rw [aT] | (simp only [Zcq, i32_w]; rw [aT]) | skip)
        obtain ⟨ct, H⟩ := gE H
        by_cases aj : j < ((Zam d c).length : Int); rotate_left
        ·rw [if_neg aj] at H
         have bq := dF aj
         clear aj
         have H' := mA H
         clear H
         have bO : wr.cell? ⟨i, 0, none⟩ = some (.int .i64 n) := bc a 0
         have bQ : wr.cell? ⟨i, 1, none⟩ = some (.slice z d.length u) := bc a 1
         have bR : wr.cell? ⟨i, 2, none⟩ = some (.slice v l.length x) := bc a 2
         have bS := Zae a.out 0
         have bT := Zae a.out 1
         have bU := Zae a.out 2
         have Y : 0 ≤ (c : Int) := ofD
         have aa : c < (d.length : Int) := ofD
         obtain ⟨br, bf, bg, aC, D, K, L⟩ := at_L3 ad.out c Y aa
         cases aC
         replace D := (HB.out.cell (wB w D)).trans D
         have a4 := mA L
         have a5 := mA K
         clear L K
         replace Y := eq_true Y
         replace aa := eq_true aa
         go_wp2
         go_meet
         case rel => exact ⟨_, (false), (eW), H', ⟨by have := O.out; have := P.out; have := W.out; first | omega | exact Nat.le_refl _⟩, ⟨rP m.out⟩, ⟨bP a.out⟩, ⟨bW⟩⟩
        rw [if_pos aj] at H
        have bq := dT aj
        clear aj
        obtain ⟨cu, H⟩ := gE H
        have H' := mA H
        clear H
        have bV : wr.cell? ⟨i, 0, none⟩ = some (.int .i64 n) := bc a 0
        have bX : wr.cell? ⟨i, 1, none⟩ = some (.slice z d.length u) := bc a 1
        have bY : wr.cell? ⟨i, 2, none⟩ = some (.slice v l.length x) := bc a 2
        have bZ := Zae a.out 0
        have b0 := Zae a.out 1
        have b1 := Zae a.out 2
        have Y : 0 ≤ (c : Int) := ofD
        have aa : c < (d.length : Int) := ofD
        obtain ⟨br, bf, bg, aC, D, K, L⟩ := at_L3 ad.out c Y aa
        cases aC
        replace D := (HB.out.cell (wB w D)).trans D
        have a4 := mA L
        have a5 := mA K
        clear L K
        replace Y := eq_true Y
        replace aa := eq_true aa
        obtain ⟨cE, cF, bA⟩ := zP m.out
        subst bA
        have aD : 0 ≤ (c : Int) := ofD
        have aE : c < (y.length : Int) := ofD
        obtain ⟨cv, bB, b2⟩ := yD (zJ m.out).2.2 c aD aE
        cases bB
        replace aD := eq_true aD
        replace aE := eq_true aE
        go_wp2
        go_meet
        case rel => exact ⟨_, (!(rdOf false y c)), (eW), H', ⟨by have := O.out; have := P.out; have := W.out; first | omega | exact Nat.le_refl _⟩, ⟨rP m.out⟩, ⟨bP a.out⟩, ⟨bW⟩⟩
       case rest =>
        clear aA
        obtain ⟨kq, ae, rfl, HA, T, m, a, HB⟩ := hcut
        cases kq with
        | zero => exact absurd HA.out (by simp [Zaz.j3])
        | succ ar =>
         have H := HA.out
         clear HA
         simp only [Zaz.j3] at H
         by_cases aU : ae = true; rotate_left
         ·replace aU := Bool.eq_false_iff.mpr aU
          subst aU
          rw [iF] at H
          have H' := mA H
          clear H
          go_wp2
          go_roundg ar
          case measure => have := O.out; have := P.out; have := W.out; have := T.out; omega
          case rel => exact ⟨(y), (X), (wrap64 (c + 1)), (eW), (eW), H', ⟨by have := O.out; have := P.out; have := W.out; have := T.out; omega⟩, ⟨rP m.out⟩, ⟨bP a.out⟩, ⟨bW⟩⟩
         subst aU
         rw [if_pos rfl] at H
         obtain ⟨cw, H⟩ := gE H
         obtain ⟨cx, H⟩ := gE H
         obtain ⟨cy, H⟩ := gE H
         obtain ⟨cz, H⟩ := gE H
         by_cases ak : (rd (Zam d c) j) ≥ 0; rotate_left
         ·rw [if_neg ak] at H
          have bs : decide (0 ≤ (rd (Zam d c) j)) = false := dF ak
          clear ak
          have H' := mA H
          clear H
          have b3 : wc.cell? ⟨i, 0, none⟩ = some (.int .i64 n) := bc a 0
          have b4 : wc.cell? ⟨i, 1, none⟩ = some (.slice z d.length u) := bc a 1
          have b5 : wc.cell? ⟨i, 2, none⟩ = some (.slice v l.length x) := bc a 2
          have b6 := Zae a.out 0
          have b7 := Zae a.out 1
          have b8 := Zae a.out 2
          have E : 0 ≤ (c : Int) := ofD
          have G : c < (d.length : Int) := ofD
          obtain ⟨au, ax, ay, ah, q, A, B⟩ := at_L3 ad.out c E G
          cases ah
          replace q := (HB.out.cell (wB w q)).trans q
          have M := mA B
          have al := mA A
          clear B A
          replace E := eq_true E
          replace G := eq_true G
          have I : 0 ≤ (j : Int) := ofD
          have J : j < ((Zam d c).length : Int) := ofD
          obtain ⟨aV, ai, s⟩ := zO M.out j I J
          cases ai
          replace s := (HB.out.cell (wB w s)).trans s
          replace I := eq_true I
          replace J := eq_true J
          go_wp2
          go_roundg ar
          case measure => have := O.out; have := P.out; have := W.out; have := T.out; omega
          case rel => exact ⟨(y), (X), (wrap64 (j + 1)), (eW), (eW), H', ⟨by have := O.out; have := P.out; have := W.out; have := T.out; omega⟩, ⟨rP m.out⟩, ⟨bP a.out⟩, ⟨bW⟩⟩
         rw [if_pos ak] at H
         have bs : decide (0 ≤ (rd (Zam d c) j)) = true := dT ak
         clear ak
         obtain ⟨cA, H⟩ := gE H
         obtain ⟨cB, H⟩ := gE H
         obtain ⟨bC, av⟩ := nm (rdOf false y (rd (Zam d c) j))
         rw [← av.out] at H
         by_cases aW : bC = true; rotate_left
         ·replace aW := Bool.eq_false_iff.mpr aW
          subst aW
          rw [iF] at H
          have H' := mA H
          clear H
          have b9 : wc.cell? ⟨i, 0, none⟩ = some (.int .i64 n) := bc a 0
          have ca : wc.cell? ⟨i, 1, none⟩ = some (.slice z d.length u) := bc a 1
          have cb : wc.cell? ⟨i, 2, none⟩ = some (.slice v l.length x) := bc a 2
          have cc := Zae a.out 0
          have cd := Zae a.out 1
          have ce := Zae a.out 2
          have E : 0 ≤ (c : Int) := ofD
          have G : c < (d.length : Int) := ofD
          obtain ⟨au, ax, ay, ah, q, A, B⟩ := at_L3 ad.out c E G
          cases ah
          replace q := (HB.out.cell (wB w q)).trans q
          have M := mA B
          have al := mA A
          clear B A
          replace E := eq_true E
          replace G := eq_true G
          have I : 0 ≤ (j : Int) := ofD
          have J : j < ((Zam d c).length : Int) := ofD
          obtain ⟨aV, ai, s⟩ := zO M.out j I J
          cases ai
          replace s := (HB.out.cell (wB w s)).trans s
          replace I := eq_true I
          replace J := eq_true J
          obtain ⟨cG, cH, bD⟩ := zP m.out
          subst bD
          have ab : 0 ≤ ((rd (Zam d c) j) : Int) := ofD
          have ac : (rd (Zam d c) j) < (y.length : Int) := ofD
          obtain ⟨bu, aG, U⟩ := yD (zJ m.out).2.2 (rd (Zam d c) j) ab ac
          (try rw [← av.out] at U)
          cases aG
          replace ab := eq_true ab
          replace ac := eq_true ac
          go_wp2
          go_roundg ar
          case measure => have := O.out; have := P.out; have := W.out; have := T.out; omega
          case rel => exact ⟨(y), (X), (wrap64 (j + 1)), (eW), (eW), H', ⟨by have := O.out; have := P.out; have := W.out; have := T.out; omega⟩, ⟨rP m.out⟩, ⟨bP a.out⟩, ⟨bW⟩⟩
         subst aW
         rw [if_pos rfl] at H
         obtain ⟨cC, H⟩ := gE H
         obtain ⟨bh, aX⟩ := nm ((y.set (c : Int).toNat true) : List Bool)
         rw [← aX.out] at H
         have H' := mA H
         clear H
         have cf : wc.cell? ⟨i, 0, none⟩ = some (.int .i64 n) := bc a 0
         have cg : wc.cell? ⟨i, 1, none⟩ = some (.slice z d.length u) := bc a 1
         have ch : wc.cell? ⟨i, 2, none⟩ = some (.slice v l.length x) := bc a 2
         have ci := Zae a.out 0
         have cj := Zae a.out 1
         have ck := Zae a.out 2
         have E : 0 ≤ (c : Int) := ofD
         have G : c < (d.length : Int) := ofD
         obtain ⟨au, ax, ay, ah, q, A, B⟩ := at_L3 ad.out c E G
         cases ah
         replace q := (HB.out.cell (wB w q)).trans q
         have M := mA B
         have al := mA A
         clear B A
         replace E := eq_true E
         replace G := eq_true G
         have I : 0 ≤ (j : Int) := ofD
         have J : j < ((Zam d c).length : Int) := ofD
         obtain ⟨aV, ai, s⟩ := zO M.out j I J
         cases ai
         replace s := (HB.out.cell (wB w s)).trans s
         replace I := eq_true I
         replace J := eq_true J
         obtain ⟨cI, bE, bF⟩ := zP m.out
         subst bF
         have ab : 0 ≤ ((rd (Zam d c) j) : Int) := ofD
         have ac : (rd (Zam d c) j) < (y.length : Int) := ofD
         obtain ⟨bu, aG, U⟩ := yD (zJ m.out).2.2 (rd (Zam d c) j) ab ac
         (try rw [← av.out] at U)
         cases aG
         replace ab := eq_true ab
         replace ac := eq_true ac
         have bi : 0 ≤ (c : Int) := ofD
         have bj : (c : Int) < ((y.length : Int) : Int) := ofD
         obtain ⟨aH, cJ, bk, bl, bG, cK, bm⟩ := yK m.out (by omega)
         (first | cases bk | (injection bk with ea_ en_ ec_; (first | subst ea_ | (injection ea_ with ea_; subst ea_)); subst ec_; clear en_))
         have bH := mA bl
         have cL := mA bm
         clear bl bG bm
         (first | simp only [Zcm] at U | skip)
         obtain ⟨cm, cn⟩ := yF false m.out (c : Int) bi bj
         replace bi := eq_true bi
         replace bj := eq_true bj
         have aI := yI m.out (c : Int) true
         go_wp2_with (first | ((with_reducible refine Zbq (t := 4) (p := 55) rfl ?_); refine Zdg (t := 4) (p := 55) (w1 := (wc.setCell ⟨aH, (c : Int).toNat, none⟩ (.bool true))) ?_; intro bn hw; have hg : wc.grownBy bn (some aH) := (by rw [hw]; exact aI.2); have hp_ : Kd.R Kd.bool 4 bn w.heap.size (fun _ => True) (.slice (some ⟨aH, 0, none⟩) y.length bE) bh := (by rw [hw, aX.out]; exact aI.1); clear aI; replace a := mA (Zah (g := i) (o := .cells #[.int .i64 n, .slice (some au) d.length u, .slice v l.length x] 66 (0, 0)) (bP a.out) hg (zN m.out a.out (by decide))); replace m := mA (hp_); replace HB := mA ((by rw [hw]; exact Za9 (HB.out) bH.out : Below w.heap.size w bn)); clear hg hw hp_))
         go_roundg ar
         case measure => have := O.out; have := P.out; have := W.out; have := T.out; omega
         case rel => exact ⟨(bh), (true), (wrap64 (j + 1)), (eW), (eW), H', ⟨by have := O.out; have := P.out; have := W.out; have := T.out; omega⟩, ⟨rP m.out⟩, ⟨bP a.out⟩, ⟨bW⟩⟩
def Zdf.f (c : Int) (a : List Int) (a1 : Int) (a2 : Int) : Option (Bool) := if 0 ≤ a1 then (if a1 < (a.length : Int) then ((Za5.f (rd a a1) a2).bind fun b => (some b)) else (none)) else (none)
theorem Zdf.calls (c : Int) (d : Option Addr) (g : Nat) (a : List Int) (a1 : Int) (a2 : Int) (r : Bool) (w : World) (k : Kd.C (Kd.int .i64) w d a.length a) (l : a.length ≤ g) (h : Zdf.f c a a1 a2 = some r) :
  Calls Tryd.prog 92 #[.agg #[.int .i64 c, .slice d a.length g], .int .i64 a1, .int .i64 a2] w fun e w' => e = .returned (.bool r) ∧ Below w.heap.size w w' := by
 have D := Tryd.underlying30
 have n := mA k
 have x := mA l
 clear k l
 have HB := mA (Below.refl w.heap.size w)
 unfold Zdf.f at h
 have H := h
 clear h
 obtain ⟨E, H⟩ := gE H
 obtain ⟨G, H⟩ := gE H
 obtain ⟨o, A6, H⟩ := bA H
 obtain rfl := oI H
 go_enter Tryd.func92, Tryd.ntmps92
 go_wp2_with (first | ((with_reducible refine Zat (N := 3) rfl ?_); refine boxS (N := 3) (cs := #[.int .i64 c, .slice d a.length g]) (t := 30) ?_; intro y hg w7 hbox hb; have m := mA (hbox); have z := geW (w := w) hg; have A := geW (w := w) hg; replace HB := mA (Zaf (bW) hb); clear hb hbox hg; obtain ⟨q, s⟩ := Zcj m.out; obtain ⟨u, v⟩ := frz2 m.out; have i : 0 ≤ (a1 : Int) := ofD; have j : a1 < (a.length : Int) := ofD; obtain ⟨B, p, b⟩ := zO n.out a1 i j; cases p; replace b := (HB.out.cell (wB w b)).trans b; replace i := eq_true i; replace j := eq_true j) | ((with_reducible refine Zax (f := 43) rfl ?_); refine Zbi (some 13) Tryd.func43 #[.int .i64 (rd a a1), .int .i64 a2] ?_; (with_reducible refine (Za5.calls (rd a a1) a2 o _ A6.out).mono ?_); rintro e w' ⟨rfl, ⟨nd, rfl⟩⟩; refine ⟨_, rfl, ?_⟩))
 go_ret
 exact ⟨eW, bW⟩
def Zbp.l0 : Nat → Int → Int → Int → Int → Int → List Int → Option (Int)
 | 0, _, _, _, _, _, _ => none
 | k + 1, x1, x2, x7, x8, a, b => if x8 < a then ((Zdf.f a b x8 x2).bind fun c => (if c = true then (Zbp.l0 k x1 x2 x7 (wrap64 (x8 + 1)) a b) else (if x8 < x2 then ((Zcd.f x8).bind fun d => (Zbp.l0 k x1 x2 (Go.bits .or .i64 x7 d) (wrap64 (x8 + 1)) a b)) else ((Za5.f x1 x8).bind fun e => (if e = true then ((Zcd.f x8).bind fun g => (Zbp.l0 k x1 x2 (Go.bits .or .i64 x7 g) (wrap64 (x8 + 1)) a b)) else (Zbp.l0 k x1 x2 x7 (wrap64 (x8 + 1)) a b)))))) else (some x7)
def Zbp.f (k : Nat) (a : Int) (b : List Int) (a1 : Int) (a2 : Int) : Option (Int) := Zbp.l0 k a1 a2 0 0 a b
theorem Zbp.calls (k : Nat) (d : Int) (i : Option Addr) (j : Nat) (c : List Int) (a1 : Int) (a2 : Int) (r : Int) (w : World) (p : Kd.C (Kd.int .i64) w i c.length c) (q : c.length ≤ j) (h : Zbp.f k d c a1 a2 = some r) :
  Calls Tryd.prog 44 #[.agg #[.int .i64 d, .slice i c.length j], .int .i64 a1, .int .i64 a2] w fun e w' => e = .returned (.int .i64 r) ∧ Below w.heap.size w w' := by
 have aj := Tryd.underlying30
 have n := mA p
 have o := mA q
 clear p q
 have HB := mA (Below.refl w.heap.size w)
 unfold Zbp.f at h
 have H := h
 clear h
 have H' := mA H
 clear H
 go_enter Tryd.func44, Tryd.ntmps44
 go_wp2_with (first | ((with_reducible refine Zat (N := 3) rfl ?_); refine boxS (N := 3) (cs := #[.int .i64 d, .slice i c.length j]) (t := 30) ?_; intro g hg w4 hbox hb; have a := mA (hbox); have ah := geW (w := w) hg; have ai := geW (w := w) hg; replace HB := mA (Zaf (bW) hb); clear hb hbox hg))
 go_loopg [7, 8] k (fun kq v7 v8 w' => ∃ (l : Int) (b : Int), v7 = .int .i64 l ∧ v8 = .int .i64 b ∧ Zac (Zbp.l0 kq a1 a2 l b d c = some r) ∧ Zac (kq ≤ k) ∧ Zac (w'.heap[g]? = some (.cells #[.int .i64 d, (.slice i c.length j)] 30 (0, 0))) ∧ Zac (Below w.heap.size w w'))
 case atStart => exact ⟨(0), (0), (eW), (eW), H', ⟨Nat.le_refl _⟩, ⟨bP a.out⟩, ⟨bW⟩⟩
 case round =>
  clear H'
  try clear p2
  try clear c4
  obtain ⟨l, b, rfl, rfl, HA, m, a, HB⟩ := hrel
  cases gk with
  | zero => exact absurd HA.out (by simp [Zbp.l0])
  | succ k1 =>
   have H := HA.out
   clear HA
   simp only [Zbp.l0] at H
   by_cases c5 : b < d; rotate_left
   ·rw [if_neg c5] at H
    have z := dF c5
    clear c5
    obtain rfl := oI H
    have D : wr.cell? ⟨g, 0, none⟩ = some (.int .i64 d) := bc a 0
    have E : wr.cell? ⟨g, 1, none⟩ = some (.slice i c.length j) := bc a 1
    have G := Zae a.out 0
    have I := Zae a.out 1
    go_wp2
    go_ret
    exact ⟨eW, bW⟩
   rw [if_pos c5] at H
   have z := dT c5
   clear c5
   obtain ⟨A, A6, H⟩ := bA H
   by_cases c7 : A = true
   ·subst c7
    rw [if_pos rfl] at H
    have H' := mA H
    clear H
    have ab : wr.cell? ⟨g, 0, none⟩ = some (.int .i64 d) := bc a 0
    have ac : wr.cell? ⟨g, 1, none⟩ = some (.slice i c.length j) := bc a 1
    have ad := Zae a.out 0
    have ae := Zae a.out 1
    go_wp2_with (first | ((with_reducible refine Zax (f := 92) rfl ?_); refine Zbi (some 18) Tryd.func92 #[.agg #[.int .i64 d, .slice i c.length j], .int .i64 b, .int .i64 a2] ?_; (with_reducible refine (Zdf.calls d _ _ c b a2 true _ ?side1 ?side2 A6.out).mono ?_); (case side1 => exact cP (zQ n.out HB.out)); (case side2 => exact o.out); rintro e w9 ⟨rfl, hb⟩; refine ⟨_, rfl, ?_⟩; replace a := mA (blkB a.out hb); replace HB := mA (Zaf (bW) hb); (try clear hb); (try clear hb2); (try clear hk); (try clear hi)))
    go_roundg k1
    case measure => have := m.out; omega
    case rel => exact ⟨(l), (wrap64 (b + 1)), (eW), (eW), H', ⟨by have := m.out; omega⟩, ⟨bP a.out⟩, ⟨bW⟩⟩
   replace c7 := Bool.eq_false_iff.mpr c7
   subst c7
   rw [iF] at H
   by_cases c10 : b < a2
   ·rw [if_pos c10] at H
    have x := dT c10
    clear c10
    obtain ⟨u, af, H⟩ := bA H
    have H' := mA H
    clear H
    have J : wr.cell? ⟨g, 0, none⟩ = some (.int .i64 d) := bc a 0
    have K : wr.cell? ⟨g, 1, none⟩ = some (.slice i c.length j) := bc a 1
    have L := Zae a.out 0
    have M := Zae a.out 1
    go_wp2_with (first | ((with_reducible refine Zax (f := 92) rfl ?_); refine Zbi (some 18) Tryd.func92 #[.agg #[.int .i64 d, .slice i c.length j], .int .i64 b, .int .i64 a2] ?_; (with_reducible refine (Zdf.calls d _ _ c b a2 false _ ?side1 ?side2 A6.out).mono ?_); (case side1 => exact cP (zQ n.out HB.out)); (case side2 => exact o.out); rintro e ak ⟨rfl, hb⟩; refine ⟨_, rfl, ?_⟩; replace a := mA (blkB a.out hb); replace HB := mA (Zaf (bW) hb); (try clear hb); (try clear hb2); (try clear hk); (try clear hi)) | ((with_reducible refine Zax (f := 88) rfl ?_); refine Zbi (some 32) Tryd.func88 #[.int .i64 b] ?_; (with_reducible refine (Zcd.calls b u _ af.out).mono ?_); rintro e w' ⟨rfl, ⟨nd, rfl⟩⟩; refine ⟨_, rfl, ?_⟩))
    go_roundg k1
    case measure => have := m.out; omega
    case rel => exact ⟨(Go.bits .or .i64 l u), (wrap64 (b + 1)), (eW), (eW), H', ⟨by have := m.out; omega⟩, ⟨bP a.out⟩, ⟨bW⟩⟩
   rw [if_neg c10] at H
   have x := dF c10
   clear c10
   obtain ⟨B, y, H⟩ := bA H
   by_cases s : B = true; rotate_left
   ·replace s := Bool.eq_false_iff.mpr s
    subst s
    rw [iF] at H
    have H' := mA H
    clear H
    have O : wr.cell? ⟨g, 0, none⟩ = some (.int .i64 d) := bc a 0
    have P : wr.cell? ⟨g, 1, none⟩ = some (.slice i c.length j) := bc a 1
    have T := Zae a.out 0
    have U := Zae a.out 1
    go_wp2_with (first | ((with_reducible refine Zax (f := 92) rfl ?_); refine Zbi (some 18) Tryd.func92 #[.agg #[.int .i64 d, .slice i c.length j], .int .i64 b, .int .i64 a2] ?_; (with_reducible refine (Zdf.calls d _ _ c b a2 false _ ?side1 ?side2 A6.out).mono ?_); (case side1 => exact cP (zQ n.out HB.out)); (case side2 => exact o.out); rintro e al ⟨rfl, hb⟩; refine ⟨_, rfl, ?_⟩; replace a := mA (blkB a.out hb); replace HB := mA (Zaf (bW) hb); (try clear hb); (try clear hb2); (try clear hk); (try clear hi)) | (go_at_call 43; (with_reducible refine (Za5.calls a1 b false _ y.out).mono ?_); rintro e w' ⟨rfl, ⟨nd, rfl⟩⟩))
    go_roundg k1
    case measure => have := m.out; omega
    case rel => exact ⟨(l), (wrap64 (b + 1)), (eW), (eW), H', ⟨by have := m.out; omega⟩, ⟨bP a.out⟩, ⟨bW⟩⟩
   subst s
   rw [if_pos rfl] at H
   obtain ⟨v, ag, H⟩ := bA H
   have H' := mA H
   clear H
   have W : wr.cell? ⟨g, 0, none⟩ = some (.int .i64 d) := bc a 0
   have X : wr.cell? ⟨g, 1, none⟩ = some (.slice i c.length j) := bc a 1
   have Y := Zae a.out 0
   have aa := Zae a.out 1
   go_wp2_with (first | ((with_reducible refine Zax (f := 92) rfl ?_); refine Zbi (some 18) Tryd.func92 #[.agg #[.int .i64 d, .slice i c.length j], .int .i64 b, .int .i64 a2] ?_; (with_reducible refine (Zdf.calls d _ _ c b a2 false _ ?side1 ?side2 A6.out).mono ?_); (case side1 => exact cP (zQ n.out HB.out)); (case side2 => exact o.out); rintro e am ⟨rfl, hb⟩; refine ⟨_, rfl, ?_⟩; replace a := mA (blkB a.out hb); replace HB := mA (Zaf (bW) hb); (try clear hb); (try clear hb2); (try clear hk); (try clear hi)) | (go_at_call 43; (with_reducible refine (Za5.calls a1 b true _ y.out).mono ?_); rintro e w' ⟨rfl, ⟨nd, rfl⟩⟩) | ((with_reducible refine Zax (f := 88) rfl ?_); refine Zbi (some 32) Tryd.func88 #[.int .i64 b] ?_; (with_reducible refine (Zcd.calls b v _ ag.out).mono ?_); rintro e w' ⟨rfl, ⟨nd, rfl⟩⟩; refine ⟨_, rfl, ?_⟩))
   go_roundg k1
   case measure => have := m.out; omega
   case rel => exact ⟨(Go.bits .or .i64 l v), (wrap64 (b + 1)), (eW), (eW), H', ⟨by have := m.out; omega⟩, ⟨bP a.out⟩, ⟨bW⟩⟩
end Go.Proofs.YtjdkedmdeajmgaaDoor.P
end M1
