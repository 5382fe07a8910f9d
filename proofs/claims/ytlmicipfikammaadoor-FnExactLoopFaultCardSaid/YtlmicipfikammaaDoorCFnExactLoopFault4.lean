import Derived.Test.YtlmicipfikammaaDoorCFnExactLoopFault3
set_option maxHeartbeats 8000000
set_option maxRecDepth 100000
section
namespace Go.Proofs.YtlmicipfikammaaDoor.P
open Go.RowKit Go.Proofs.YtlmicipfikammaaDoor.Sh Go.Proofs.YtlmicipfikammaaDoorW.PrintWords Go.Proofs.YtlmicipfikammaaDoorW.PrintLast Go.Proofs.YtlmicipfikammaaDoorW.PrintMore
open Kd
attribute [local go_sem] Zb8 Zcb Zcm Zcl Zb4 Zb3 Zb7 Zcd   -- for this text's walks alone
set_option linter.unusedVariables false
set_option linter.unusedSimpArgs false
def Zcn.f (k : Nat) (a : Int) (b : Int) (c : Int) (d : List (List Int)) (e : Int) (g : Int) (h : Int) (i : List (List Int)) : Option (Bool) := if a = e then (if b = g then (if c = h then ((Zbm.f k d i).bind fun j => (if j = true then (some true) else (some false))) else (some false)) else (some false)) else (some false)
theorem Zcn.calls (k : Nat) (j : Int) (l : Int) (m : Int) (q : Option Addr) (s : Nat) (g : List (List Int)) (n : Int) (o : Int) (p : Int) (u : Option Addr) (v : Nat) (i : List (List Int)) (r : Bool) (w : World) (E : Kd.C (Kd.slice 2 (Kd.int .i64)) w q g.length g) (G : g.length ≤ s) (I : Kd.C (Kd.slice 2 (Kd.int .i64)) w u i.length i) (J : i.length ≤ v) (h : Zcn.f k j l m g n o p i = some r) :
  Calls Tryd.prog 16 #[.agg #[.int .i64 j, .int .i64 l, .int .i64 m, .slice q g.length s], .agg #[.int .i64 n, .int .i64 o, .int .i64 p, .slice u i.length v]] w fun e w' => e = .returned (.bool r) ∧ Below w.heap.size w w' := by
 have bI := Tryd.underlying34
 have K := mA E
 have L := mA G
 clear E G
 have M := mA I
 have O := mA J
 clear I J
 have HB := mA (Below.refl w.heap.size w)
 unfold Zcn.f at h
 have H := h
 clear h
 by_cases c3 : j = n; rotate_left
 ·rw [if_neg c3] at H
  have P : (j == n) = false := beq_eq_false_iff_ne.mpr c3
  have T : (j != n) = true := bne_iff_ne.mpr c3
  obtain rfl := oI H
  go_enter Tryd.func16, Tryd.ntmps16
  go_wp2_with (first | ((with_reducible refine Zan (N := 2) rfl ?_); refine boxS (N := 2) (cs := #[.int .i64 j, .int .i64 l, .int .i64 m, .slice q g.length s]) (t := 34) ?_; intro x hg bJ hbox hb; have a := mA (hbox); have y := geW (w := w) hg; have z := geW (w := w) hg; replace HB := mA (Zac (bW) hb); clear hb hbox hg) | ((with_reducible refine Zan (N := 3) rfl ?_); refine boxS (N := 3) (cs := #[.int .i64 n, .int .i64 o, .int .i64 p, .slice u i.length v]) (t := 34) ?_; intro A hg bK hbox hb; have d := mA (hbox); have B := geW (w := w) hg; have D := geW (w := w) hg; replace HB := mA (Zac (bW) hb); have b := mA (neB hg a); have c := mA (neC hg a); replace a := mA (blkB a.out hb); clear hb hbox hg; have bw := b.out; have bx := c.out; obtain ⟨aa, ab, ac, ad⟩ := Zbk a.out; obtain ⟨ae, af, ag, ah⟩ := frz4 a.out; obtain ⟨ai, aj, ak, al⟩ := Zbk d.out; obtain ⟨am, an, ao, ap⟩ := frz4 d.out))
  go_ret
  exact ⟨eW, bW⟩
 rw [if_pos c3] at H
 have P : (j == n) = true := beq_iff_eq.mpr c3
 have T : (j != n) = false := bne_eq_false_iff_eq.mpr c3
 clear c3
 by_cases c4 : l = o; rotate_left
 ·rw [if_neg c4] at H
  have U : (l == o) = false := beq_eq_false_iff_ne.mpr c4
  have W : (l != o) = true := bne_iff_ne.mpr c4
  obtain rfl := oI H
  go_enter Tryd.func16, Tryd.ntmps16
  go_wp2_with (first | ((with_reducible refine Zan (N := 2) rfl ?_); refine boxS (N := 2) (cs := #[.int .i64 j, .int .i64 l, .int .i64 m, .slice q g.length s]) (t := 34) ?_; intro x hg bL hbox hb; have a := mA (hbox); have y := geW (w := w) hg; have z := geW (w := w) hg; replace HB := mA (Zac (bW) hb); clear hb hbox hg) | ((with_reducible refine Zan (N := 3) rfl ?_); refine boxS (N := 3) (cs := #[.int .i64 n, .int .i64 o, .int .i64 p, .slice u i.length v]) (t := 34) ?_; intro A hg bM hbox hb; have d := mA (hbox); have B := geW (w := w) hg; have D := geW (w := w) hg; replace HB := mA (Zac (bW) hb); have b := mA (neB hg a); have c := mA (neC hg a); replace a := mA (blkB a.out hb); clear hb hbox hg; have bz := b.out; have bB := c.out; obtain ⟨aq, ar, au, av⟩ := Zbk a.out; obtain ⟨aw, ax, ay, az⟩ := frz4 a.out; obtain ⟨aA, aB, aC, aD⟩ := Zbk d.out; obtain ⟨aE, aF, aG, aH⟩ := frz4 d.out))
  go_ret
  exact ⟨eW, bW⟩
 rw [if_pos c4] at H
 have U : (l == o) = true := beq_iff_eq.mpr c4
 have W : (l != o) = false := bne_eq_false_iff_eq.mpr c4
 clear c4
 by_cases c5 : m = p; rotate_left
 ·rw [if_neg c5] at H
  have X : (m == p) = false := beq_eq_false_iff_ne.mpr c5
  have Y : (m != p) = true := bne_iff_ne.mpr c5
  obtain rfl := oI H
  go_enter Tryd.func16, Tryd.ntmps16
  go_wp2_with (first | ((with_reducible refine Zan (N := 2) rfl ?_); refine boxS (N := 2) (cs := #[.int .i64 j, .int .i64 l, .int .i64 m, .slice q g.length s]) (t := 34) ?_; intro x hg bN hbox hb; have a := mA (hbox); have y := geW (w := w) hg; have z := geW (w := w) hg; replace HB := mA (Zac (bW) hb); clear hb hbox hg) | ((with_reducible refine Zan (N := 3) rfl ?_); refine boxS (N := 3) (cs := #[.int .i64 n, .int .i64 o, .int .i64 p, .slice u i.length v]) (t := 34) ?_; intro A hg bO hbox hb; have d := mA (hbox); have B := geW (w := w) hg; have D := geW (w := w) hg; replace HB := mA (Zac (bW) hb); have b := mA (neB hg a); have c := mA (neC hg a); replace a := mA (blkB a.out hb); clear hb hbox hg; have bC := b.out; have bD := c.out; obtain ⟨aI, aJ, aK, aL⟩ := Zbk a.out; obtain ⟨aM, aN, aO, aP⟩ := frz4 a.out; obtain ⟨aQ, aR, aS, aT⟩ := Zbk d.out; obtain ⟨aU, aV, aW, aX⟩ := frz4 d.out))
  go_ret
  exact ⟨eW, bW⟩
 rw [if_pos c5] at H
 have X : (m == p) = true := beq_iff_eq.mpr c5
 have Y : (m != p) = false := bne_eq_false_iff_eq.mpr c5
 clear c5
 obtain ⟨Z, A6, H⟩ := bA H
 by_cases c7 : Z = true
 ·subst c7
  rw [if_pos rfl] at H
  obtain rfl := oI H
  go_enter Tryd.func16, Tryd.ntmps16
  go_wp2_with (first | ((with_reducible refine Zan (N := 2) rfl ?_); refine boxS (N := 2) (cs := #[.int .i64 j, .int .i64 l, .int .i64 m, .slice q g.length s]) (t := 34) ?_; intro x hg w8 hbox hb; have a := mA (hbox); have y := geW (w := w) hg; have z := geW (w := w) hg; replace HB := mA (Zac (bW) hb); clear hb hbox hg) | ((with_reducible refine Zan (N := 3) rfl ?_); refine boxS (N := 3) (cs := #[.int .i64 n, .int .i64 o, .int .i64 p, .slice u i.length v]) (t := 34) ?_; intro A hg w9 hbox hb; have d := mA (hbox); have B := geW (w := w) hg; have D := geW (w := w) hg; replace HB := mA (Zac (bW) hb); have b := mA (neB hg a); have c := mA (neC hg a); replace a := mA (blkB a.out hb); clear hb hbox hg; have bE := b.out; have bF := c.out; obtain ⟨aY, aZ, a0, a1⟩ := Zbk a.out; obtain ⟨a2, a3, a4, a5⟩ := frz4 a.out; obtain ⟨a6, a7, a8, a9⟩ := Zbk d.out; obtain ⟨ba, bb, bc, bd⟩ := frz4 d.out) | ((with_reducible refine Zal (f := 28) rfl ?_); refine Zbc (some 24) Tryd.func28 #[.slice q g.length s, .slice u i.length v] ?_; (with_reducible refine (Zbm.calls k _ _ g _ _ i true _ ?side1 ?side2 ?side3 ?side4 A6.out).mono ?_); (case side1 => exact cP (zC K.out HB.out)); (case side2 => exact L.out); (case side3 => exact cP (zC M.out HB.out)); (case side4 => exact O.out); rintro e w' ⟨rfl, ⟨nd, rfl⟩⟩; refine ⟨_, rfl, ?_⟩))
  go_ret
  exact ⟨eW, bW⟩
 replace c7 := Bool.eq_false_iff.mpr c7
 subst c7
 rw [iF] at H
 obtain rfl := oI H
 go_enter Tryd.func16, Tryd.ntmps16
 go_wp2_with (first | ((with_reducible refine Zan (N := 2) rfl ?_); refine boxS (N := 2) (cs := #[.int .i64 j, .int .i64 l, .int .i64 m, .slice q g.length s]) (t := 34) ?_; intro x hg bQ hbox hb; have a := mA (hbox); have y := geW (w := w) hg; have z := geW (w := w) hg; replace HB := mA (Zac (bW) hb); clear hb hbox hg) | ((with_reducible refine Zan (N := 3) rfl ?_); refine boxS (N := 3) (cs := #[.int .i64 n, .int .i64 o, .int .i64 p, .slice u i.length v]) (t := 34) ?_; intro A hg bR hbox hb; have d := mA (hbox); have B := geW (w := w) hg; have D := geW (w := w) hg; replace HB := mA (Zac (bW) hb); have b := mA (neB hg a); have c := mA (neC hg a); replace a := mA (blkB a.out hb); clear hb hbox hg; have bG := b.out; have bH := c.out; obtain ⟨bf, bg, bh, bi⟩ := Zbk a.out; obtain ⟨bj, bk, bl, bm⟩ := frz4 a.out; obtain ⟨bn, bo, bp, bq⟩ := Zbk d.out; obtain ⟨br, bs, bu, bv⟩ := frz4 d.out) | ((with_reducible refine Zal (f := 28) rfl ?_); refine Zbc (some 24) Tryd.func28 #[.slice q g.length s, .slice u i.length v] ?_; (with_reducible refine (Zbm.calls k _ _ g _ _ i false _ ?side1 ?side2 ?side3 ?side4 A6.out).mono ?_); (case side1 => exact cP (zC K.out HB.out)); (case side2 => exact L.out); (case side3 => exact cP (zC M.out HB.out)); (case side4 => exact O.out); rintro e w' ⟨rfl, ⟨nd, rfl⟩⟩; refine ⟨_, rfl, ?_⟩))
 go_ret
 exact ⟨eW, bW⟩
mutual
def Zat.l0 : Nat → List Bool → Bool → Int → List (List Int) → List Bool → Option (List Bool)
 | 0, _, _, _, _, _ => none
 | k + 1, x3, x4, a, b, c => if x4 = true then (Zat.l1 k x3 false 0 a b c) else (some x3)
def Zat.l1 : Nat → List Bool → Bool → Int → Int → List (List Int) → List Bool → Option (List Bool)
 | 0, _, _, _, _, _, _ => none
 | k + 1, x3, x4, x5, b, a, c => if x5 < (a.length : Int) then (Zat.l2 k x3 x4 x5 0 b a c) else (Zat.l0 k x3 x4 b a c)
def Zat.l2 : Nat → List Bool → Bool → Int → Int → Int → List (List Int) → List Bool → Option (List Bool)
 | 0, _, _, _, _, _, _, _ => none
 | k + 1, x3, x4, x5, x6, b, a, c => if 0 ≤ x5 then (if x5 < (a.length : Int) then (if x6 < ((Zae a x5).length : Int) then (if x5 < (x3.length : Int) then (Zat.j3 k x3 x4 x5 x6 (!(rdOf false x3 x5)) b a c) else (none)) else (Zat.j3 k x3 x4 x5 x6 false b a c)) else (none)) else (none)
def Zat.j3 : Nat → List Bool → Bool → Int → Int → Bool → Int → List (List Int) → List Bool → Option (List Bool)
 | 0, _, _, _, _, _, _, _, _ => none
 | k + 1, x3, x4, x5, x6, d, b, a, c => if d = true then (if 0 ≤ x5 then (if x5 < (a.length : Int) then (if 0 ≤ x6 then (if x6 < ((Zae a x5).length : Int) then (if (rd (Zae a x5) x6) ≥ 0 then (if 0 ≤ (rd (Zae a x5) x6) then (if (rd (Zae a x5) x6) < (x3.length : Int) then (if rdOf false x3 (rd (Zae a x5) x6) = true then (if x5 < (x3.length : Int) then (Zat.l2 k (x3.set (x5 : Int).toNat true) true x5 (wrap64 (x6 + 1)) b a c) else (none)) else (Zat.l2 k x3 x4 x5 (wrap64 (x6 + 1)) b a c)) else (none)) else (none)) else (Zat.l2 k x3 x4 x5 (wrap64 (x6 + 1)) b a c)) else (none)) else (none)) else (none)) else (none)) else (Zat.l1 k x3 x4 (wrap64 (x5 + 1)) b a c)
end
def Zat.f (k : Nat) (c : Int) (d : List (List Int)) (a : List Bool) : Option (List Bool) := (some (([] : List Bool) : List Bool)).bind fun b => (if b.length + a.length < 140737488355328 then (Zat.l0 k (b ++ a) true c d a) else (none))
theorem Zat.calls (k : Nat) (n : Int) (z : Option Addr) (u : Nat) (d : List (List Int)) (v : Option Addr) (x : Nat) (l : List Bool) (r : List Bool) (w : World) (aI : Kd.C (Kd.slice 2 (Kd.int .i64)) w z d.length d) (aJ : d.length ≤ u) (aK : Kd.C Kd.bool w v l.length l) (aM : l.length ≤ x) (h : Zat.f k n d l = some r) :
  Calls Tryd.prog 84 #[.agg #[.int .i64 n, .slice z d.length u, .slice v l.length x]] w fun e w' => ∃ bu : Value, e = .returned (bu) ∧ Kd.R Kd.bool 4 w' w.heap.size (fun _ => True) bu r ∧ Below w.heap.size w w' := by
 have cm := Tryd.underlying101
 have ac := mA aI
 have cn := mA aJ
 clear aI aJ
 have bn := mA aK
 have co := mA aM
 clear aK aM
 have HB := mA (Below.refl w.heap.size w)
 unfold Zat.f at h
 have H := h
 clear h
 obtain ⟨ay, al⟩ : ∃ y_ : List Bool, y_ = (([] : List Bool)) := ⟨_, rfl⟩
 replace H := bsm al H
 have aN := mA al
 clear al
 by_cases c2 : ay.length + l.length < 140737488355328; rotate_left
 ·rw [if_neg c2] at H
  exact absurd H (by simp)
 rw [if_pos c2] at H
 have bv := mA c2
 clear c2
 obtain ⟨bw, aP⟩ := nm ((ay ++ l) : List Bool)
 rw [← aP.out] at H
 have H' := mA H
 clear H
 go_enter Tryd.func84, Tryd.ntmps84
 go_wp2_with (first | ((with_reducible refine Zan (N := 1) rfl ?_); refine boxS (N := 1) (cs := #[.int .i64 n, .slice z d.length u, .slice v l.length x]) (t := 101) ?_; intro i hg w3 hbox hb; have a := mA (hbox); have cp := geW (w := w) hg; have cq := geW (w := w) hg; replace HB := mA (Zac (bW) hb); clear hb hbox hg) | ((with_reducible refine Zan (N := 8) rfl ?_); refine yS Kd.bool _ 4 ?hg (N := 8) ?hd (xs := ([] : List Bool)) (inner := []) (ok := fun _ => True) (okp := fun _ => True) ?hr ?hp (fun _ hk => hk) trivial (Below.refl _ _) (Nat.le_refl _) (by simp) ?_; (case hd => rfl); (case hg => rfl); (case hr => first | (go_simp; done) | (go_simp; rfl)); (case hp => exact (Reps.none _ _)); intro bx w4 av hb hg_ hnew_; clear hg_ hnew_; (first | rw [← aN.out] at av | (simp only [Int.reduceToNat] at av; rw [← aN.out] at av)); have am := mA (zQ av (Zao (bW))); replace a := mA (blkB a.out hb); replace HB := mA (Zac (bW) hb); clear hb av; obtain ⟨a5, a6, a7⟩ := cells3 a.out; obtain ⟨a8, a9, ba⟩ := frz3 a.out) | ((with_reducible refine Zch (b := .append) (xs := #[.tmp 8, .tmp 10]) rfl ?_); at_builtin; refine xL Kd.bool (w0 := w) w.heap.size rfl (.tmp 8) (.tmp 10) 59 4 (.bool false) 1 rfl Tryd.underlying59 info4 rfl (by decide) (by omega) bx ay l _ _ _ (fun _ => True) (fun _ => False) rfl rfl ?aO ?aR (fun _ _ h => h) (fun _ h => h.elim) ?aF ?aB ?aS ?aL ?_; (case aR => exact cP (zC bn.out HB.out)); (case aB => exact (bW)); (case aF => exact (fun _ _ => trivial)); (case aO => exact (rP am.out)); (case aS => exact (Zao (bW))); (case aL => have := bv.out; omega); intro an w7 ho hb hg hat; rw [← aP.out] at ho; replace a := mA (Zay (g := i) (o := .cells #[.int .i64 n, .slice z d.length u, .slice v l.length x] 101 (0, 0)) (bP a.out) hg (zM am.out a.out (by decide))); replace HB := mA (hb); have bo := mA (ho); clear am ho hb hg hat))
 go_loopg [4] k (fun kq v4 w' => ∃ (ao : List Bool) (ap : Bool), v4 = .bool ap ∧ Zab (Zat.l0 kq ao ap n d l = some r) ∧ Zab (kq ≤ k) ∧ Zab (Kd.R Kd.bool 4 w' w.heap.size (fun _ => True) an ao) ∧ Zab (w'.heap[i]? = some (.cells #[.int .i64 n, (.slice z d.length u), (.slice v l.length x)] 101 (0, 0))) ∧ Zab (Below w.heap.size w w'))
 case atStart => exact ⟨(bw), (true), (eW), H', ⟨Nat.le_refl _⟩, ⟨rP bo.out⟩, ⟨bP a.out⟩, ⟨bW⟩⟩
 case round =>
  clear H' a5 a6 a7 a8 a9 ba
  obtain ⟨ao, ap, rfl, HA, O, m, a, HB⟩ := hrel
  cases gk with
  | zero => exact absurd HA.out (by simp [Zat.l0])
  | succ k1 =>
   have H := HA.out
   clear HA
   simp only [Zat.l0] at H
   by_cases c8 : ap = true; rotate_left
   ·replace c8 := Bool.eq_false_iff.mpr c8
    subst c8
    rw [iF] at H
    obtain rfl := oI H
    go_wp2
    go_ret
    exact ⟨_, eW, (rP m.out), bW⟩
   subst c8
   rw [if_pos rfl] at H
   have H' := mA H
   clear H
   go_wp2
   go_loopg [4, 5] k1 (fun kq v4 v5 w' => ∃ (ae : List Bool) (af : Bool) (c : Int), v4 = .bool af ∧ v5 = .int .i64 c ∧ Zab (Zat.l1 kq ae af c n d l = some r) ∧ Zab (kq ≤ k1) ∧ Zab (Kd.R Kd.bool 4 w' w.heap.size (fun _ => True) an ae) ∧ Zab (w'.heap[i]? = some (.cells #[.int .i64 n, (.slice z d.length u), (.slice v l.length x)] 101 (0, 0))) ∧ Zab (Below w.heap.size w w'))
   case atStart => exact ⟨(ao), (false), (0), (eW), (eW), H', ⟨Nat.le_refl _⟩, ⟨rP m.out⟩, ⟨bP a.out⟩, ⟨bW⟩⟩
   case round =>
    clear H'
    obtain ⟨ae, af, c, rfl, rfl, HA, P, m, a, HB⟩ := hrel
    cases gk with
    | zero => exact absurd HA.out (by simp [Zat.l1])
    | succ k2 =>
     have H := HA.out
     clear HA
     simp only [Zat.l1] at H
     by_cases c9 : c < (d.length : Int); rotate_left
     ·rw [if_neg c9] at H
      have bb := dF c9
      clear c9
      have H' := mA H
      clear H
      have bH : wr.cell? ⟨i, 0, none⟩ = some (.int .i64 n) := bc a 0
      have bI : wr.cell? ⟨i, 1, none⟩ = some (.slice z d.length u) := bc a 1
      have bJ : wr.cell? ⟨i, 2, none⟩ = some (.slice v l.length x) := bc a 2
      have bK := Zaa a.out 0
      have bL := Zaa a.out 1
      have bM := Zaa a.out 2
      go_wp2
      go_roundg k2
      case measure => have := O.out; have := P.out; omega
      case rel => exact ⟨(ae), (af), (eW), H', ⟨by have := O.out; have := P.out; omega⟩, ⟨rP m.out⟩, ⟨bP a.out⟩, ⟨bW⟩⟩
     rw [if_pos c9] at H
     have bb := dT c9
     clear c9
     have H' := mA H
     clear H
     have aX : wr.cell? ⟨i, 0, none⟩ = some (.int .i64 n) := bc a 0
     have aY : wr.cell? ⟨i, 1, none⟩ = some (.slice z d.length u) := bc a 1
     have aZ : wr.cell? ⟨i, 2, none⟩ = some (.slice v l.length x) := bc a 2
     have a0 := Zaa a.out 0
     have a1 := Zaa a.out 1
     have a2 := Zaa a.out 2
     go_wp2
     go_loopg [4, 6] k2 (fun kq v4 v6 w' => ∃ (y : List Bool) (X : Bool) (j : Int), v4 = .bool X ∧ v6 = .int .i64 j ∧ Zab (Zat.l2 kq y X c j n d l = some r) ∧ Zab (kq ≤ k2) ∧ Zab (Kd.R Kd.bool 4 w' w.heap.size (fun _ => True) an y) ∧ Zab (w'.heap[i]? = some (.cells #[.int .i64 n, (.slice z d.length u), (.slice v l.length x)] 101 (0, 0))) ∧ Zab (Below w.heap.size w w'))
     case atStart => exact ⟨(ae), (af), (0), (eW), (eW), H', ⟨Nat.le_refl _⟩, ⟨rP m.out⟩, ⟨bP a.out⟩, ⟨bW⟩⟩
     case round =>
      clear H' bb aX aY aZ a0 a1 a2
      obtain ⟨y, X, j, rfl, rfl, HA, W, m, a, HB⟩ := hrel
      cases gk with
      | zero => exact absurd HA.out (by simp [Zat.l2])
      | succ k3 =>
       have H := HA.out
       clear HA
       simp only [Zat.l2] at H
       have az := mA H
       clear H
       go_upto_region 9 with (fail)
       go_cut [34] (fun v34 wc => ∃ (kq : Nat) (ad : Bool), v34 = .bool ad ∧ Zab (Zat.j3 kq y X c j ad n d l = some r) ∧ Zab (kq ≤ k3) ∧ Zab (Kd.R Kd.bool 4 wc w.heap.size (fun _ => True) an y) ∧ Zab (wc.heap[i]? = some (.cells #[.int .i64 n, (.slice z d.length u), (.slice v l.length x)] 101 (0, 0))) ∧ Zab (Below w.heap.size w wc))
       case first =>
        have H := az.out
        clear az
        obtain ⟨aQ, H⟩ := gE H
        (first | rw [aQ] | (simp only [Zci, i32_w]; rw [aQ]) | skip)
        obtain ⟨cr, H⟩ := gE H
        by_cases ai : j < ((Zae d c).length : Int); rotate_left
        ·rw [if_neg ai] at H
         have bp := dF ai
         clear ai
         have H' := mA H
         clear H
         have bN : wr.cell? ⟨i, 0, none⟩ = some (.int .i64 n) := bc a 0
         have bO : wr.cell? ⟨i, 1, none⟩ = some (.slice z d.length u) := bc a 1
         have bQ : wr.cell? ⟨i, 2, none⟩ = some (.slice v l.length x) := bc a 2
         have bR := Zaa a.out 0
         have bS := Zaa a.out 1
         have bT := Zaa a.out 2
         have Y : 0 ≤ (c : Int) := ofD
         have Z : c < (d.length : Int) := ofD
         obtain ⟨bq, bd, bf, aA, D, K, L⟩ := at_L1 ac.out c Y Z
         cases aA
         replace D := (HB.out.cell (wB w D)).trans D
         have a3 := mA L
         have a4 := mA K
         clear L K
         replace Y := eq_true Y
         replace Z := eq_true Z
         go_wp2
         go_meet
         case rel => exact ⟨_, (false), (eW), H', ⟨by have := O.out; have := P.out; have := W.out; first | omega | exact Nat.le_refl _⟩, ⟨rP m.out⟩, ⟨bP a.out⟩, ⟨bW⟩⟩
        rw [if_pos ai] at H
        have bp := dT ai
        clear ai
        obtain ⟨ct, H⟩ := gE H
        have H' := mA H
        clear H
        have bU : wr.cell? ⟨i, 0, none⟩ = some (.int .i64 n) := bc a 0
        have bV : wr.cell? ⟨i, 1, none⟩ = some (.slice z d.length u) := bc a 1
        have bX : wr.cell? ⟨i, 2, none⟩ = some (.slice v l.length x) := bc a 2
        have bY := Zaa a.out 0
        have bZ := Zaa a.out 1
        have b0 := Zaa a.out 2
        have Y : 0 ≤ (c : Int) := ofD
        have Z : c < (d.length : Int) := ofD
        obtain ⟨bq, bd, bf, aA, D, K, L⟩ := at_L1 ac.out c Y Z
        cases aA
        replace D := (HB.out.cell (wB w D)).trans D
        have a3 := mA L
        have a4 := mA K
        clear L K
        replace Y := eq_true Y
        replace Z := eq_true Z
        obtain ⟨cC, cD, bz⟩ := zH m.out
        subst bz
        have aC : 0 ≤ (c : Int) := ofD
        have aD : c < (y.length : Int) := ofD
        obtain ⟨cu, bA, b1⟩ := zP (zF m.out).2.2 c aC aD
        cases bA
        replace aC := eq_true aC
        replace aD := eq_true aD
        go_wp2
        go_meet
        case rel => exact ⟨_, (!(rdOf false y c)), (eW), H', ⟨by have := O.out; have := P.out; have := W.out; first | omega | exact Nat.le_refl _⟩, ⟨rP m.out⟩, ⟨bP a.out⟩, ⟨bW⟩⟩
       case rest =>
        clear az
        obtain ⟨kq, ad, rfl, HA, T, m, a, HB⟩ := hcut
        cases kq with
        | zero => exact absurd HA.out (by simp [Zat.j3])
        | succ aq =>
         have H := HA.out
         clear HA
         simp only [Zat.j3] at H
         by_cases aT : ad = true; rotate_left
         ·replace aT := Bool.eq_false_iff.mpr aT
          subst aT
          rw [iF] at H
          have H' := mA H
          clear H
          go_wp2
          go_roundg aq
          case measure => have := O.out; have := P.out; have := W.out; have := T.out; omega
          case rel => exact ⟨(y), (X), (wrap64 (c + 1)), (eW), (eW), H', ⟨by have := O.out; have := P.out; have := W.out; have := T.out; omega⟩, ⟨rP m.out⟩, ⟨bP a.out⟩, ⟨bW⟩⟩
         subst aT
         rw [if_pos rfl] at H
         obtain ⟨cv, H⟩ := gE H
         obtain ⟨cw, H⟩ := gE H
         obtain ⟨cx, H⟩ := gE H
         obtain ⟨cy, H⟩ := gE H
         by_cases aj : (rd (Zae d c) j) ≥ 0; rotate_left
         ·rw [if_neg aj] at H
          have br : decide (0 ≤ (rd (Zae d c) j)) = false := dF aj
          clear aj
          have H' := mA H
          clear H
          have b2 : wc.cell? ⟨i, 0, none⟩ = some (.int .i64 n) := bc a 0
          have b3 : wc.cell? ⟨i, 1, none⟩ = some (.slice z d.length u) := bc a 1
          have b4 : wc.cell? ⟨i, 2, none⟩ = some (.slice v l.length x) := bc a 2
          have b5 := Zaa a.out 0
          have b6 := Zaa a.out 1
          have b7 := Zaa a.out 2
          have E : 0 ≤ (c : Int) := ofD
          have G : c < (d.length : Int) := ofD
          obtain ⟨ar, aw, ax, ag, q, A, B⟩ := at_L1 ac.out c E G
          cases ag
          replace q := (HB.out.cell (wB w q)).trans q
          have M := mA B
          have ak := mA A
          clear B A
          replace E := eq_true E
          replace G := eq_true G
          have I : 0 ≤ (j : Int) := ofD
          have J : j < ((Zae d c).length : Int) := ofD
          obtain ⟨aU, ah, s⟩ := zK M.out j I J
          cases ah
          replace s := (HB.out.cell (wB w s)).trans s
          replace I := eq_true I
          replace J := eq_true J
          go_wp2
          go_roundg aq
          case measure => have := O.out; have := P.out; have := W.out; have := T.out; omega
          case rel => exact ⟨(y), (X), (wrap64 (j + 1)), (eW), (eW), H', ⟨by have := O.out; have := P.out; have := W.out; have := T.out; omega⟩, ⟨rP m.out⟩, ⟨bP a.out⟩, ⟨bW⟩⟩
         rw [if_pos aj] at H
         have br : decide (0 ≤ (rd (Zae d c) j)) = true := dT aj
         clear aj
         obtain ⟨cz, H⟩ := gE H
         obtain ⟨cA, H⟩ := gE H
         obtain ⟨bB, au⟩ := nm (rdOf false y (rd (Zae d c) j))
         rw [← au.out] at H
         by_cases aV : bB = true; rotate_left
         ·replace aV := Bool.eq_false_iff.mpr aV
          subst aV
          rw [iF] at H
          have H' := mA H
          clear H
          have b8 : wc.cell? ⟨i, 0, none⟩ = some (.int .i64 n) := bc a 0
          have b9 : wc.cell? ⟨i, 1, none⟩ = some (.slice z d.length u) := bc a 1
          have ca : wc.cell? ⟨i, 2, none⟩ = some (.slice v l.length x) := bc a 2
          have cb := Zaa a.out 0
          have cc := Zaa a.out 1
          have cd := Zaa a.out 2
          have E : 0 ≤ (c : Int) := ofD
          have G : c < (d.length : Int) := ofD
          obtain ⟨ar, aw, ax, ag, q, A, B⟩ := at_L1 ac.out c E G
          cases ag
          replace q := (HB.out.cell (wB w q)).trans q
          have M := mA B
          have ak := mA A
          clear B A
          replace E := eq_true E
          replace G := eq_true G
          have I : 0 ≤ (j : Int) := ofD
          have J : j < ((Zae d c).length : Int) := ofD
          obtain ⟨aU, ah, s⟩ := zK M.out j I J
          cases ah
          replace s := (HB.out.cell (wB w s)).trans s
          replace I := eq_true I
          replace J := eq_true J
          obtain ⟨cE, cF, bC⟩ := zH m.out
          subst bC
          have aa : 0 ≤ ((rd (Zae d c) j) : Int) := ofD
          have ab : (rd (Zae d c) j) < (y.length : Int) := ofD
          obtain ⟨bs, aE, U⟩ := zP (zF m.out).2.2 (rd (Zae d c) j) aa ab
          (try rw [← au.out] at U)
          cases aE
          replace aa := eq_true aa
          replace ab := eq_true ab
          go_wp2
          go_roundg aq
          case measure => have := O.out; have := P.out; have := W.out; have := T.out; omega
          case rel => exact ⟨(y), (X), (wrap64 (j + 1)), (eW), (eW), H', ⟨by have := O.out; have := P.out; have := W.out; have := T.out; omega⟩, ⟨rP m.out⟩, ⟨bP a.out⟩, ⟨bW⟩⟩
         subst aV
         rw [if_pos rfl] at H
         obtain ⟨cB, H⟩ := gE H
         obtain ⟨bg, aW⟩ := nm ((y.set (c : Int).toNat true) : List Bool)
         rw [← aW.out] at H
         have H' := mA H
         clear H
         have ce : wc.cell? ⟨i, 0, none⟩ = some (.int .i64 n) := bc a 0
         have cf : wc.cell? ⟨i, 1, none⟩ = some (.slice z d.length u) := bc a 1
         have cg : wc.cell? ⟨i, 2, none⟩ = some (.slice v l.length x) := bc a 2
         have ch := Zaa a.out 0
         have ci := Zaa a.out 1
         have cj := Zaa a.out 2
         have E : 0 ≤ (c : Int) := ofD
         have G : c < (d.length : Int) := ofD
         obtain ⟨ar, aw, ax, ag, q, A, B⟩ := at_L1 ac.out c E G
         cases ag
         replace q := (HB.out.cell (wB w q)).trans q
         have M := mA B
         have ak := mA A
         clear B A
         replace E := eq_true E
         replace G := eq_true G
         have I : 0 ≤ (j : Int) := ofD
         have J : j < ((Zae d c).length : Int) := ofD
         obtain ⟨aU, ah, s⟩ := zK M.out j I J
         cases ah
         replace s := (HB.out.cell (wB w s)).trans s
         replace I := eq_true I
         replace J := eq_true J
         obtain ⟨cG, bD, bE⟩ := zH m.out
         subst bE
         have aa : 0 ≤ ((rd (Zae d c) j) : Int) := ofD
         have ab : (rd (Zae d c) j) < (y.length : Int) := ofD
         obtain ⟨bs, aE, U⟩ := zP (zF m.out).2.2 (rd (Zae d c) j) aa ab
         (try rw [← au.out] at U)
         cases aE
         replace aa := eq_true aa
         replace ab := eq_true ab
         have bh : 0 ≤ (c : Int) := ofD
         have bi : (c : Int) < ((y.length : Int) : Int) := ofD
         obtain ⟨aG, cH, bj, bk, bF, cI, bl⟩ := yC m.out (by omega)
         (first | cases bj | (injection bj with ea_ en_ ec_; (first | subst ea_ | (injection ea_ with ea_; subst ea_)); subst ec_; clear en_))
         have bG := mA bk
         have cJ := mA bl
         clear bk bF bl
         (first | simp only [Zb1] at U | skip)
         obtain ⟨ck, cl⟩ := zI false m.out (c : Int) bh bi
         replace bh := eq_true bh
         replace bi := eq_true bi
         have aH := zS m.out (c : Int) true
         go_wp2_with (first | ((with_reducible refine Zbp (t := 4) (p := 55) rfl ?_); refine storeS (t := 4) (p := 55) (w1 := (wc.setCell ⟨aG, (c : Int).toNat, none⟩ (.bool true))) ?_; intro bm hw; have hg : wc.grownBy bm (some aG) := (by rw [hw]; exact aH.2); have hp_ : Kd.R Kd.bool 4 bm w.heap.size (fun _ => True) (.slice (some ⟨aG, 0, none⟩) y.length bD) bg := (by rw [hw, aW.out]; exact aH.1); clear aH; replace a := mA (Zay (g := i) (o := .cells #[.int .i64 n, .slice (some ar) d.length u, .slice v l.length x] 101 (0, 0)) (bP a.out) hg (zM m.out a.out (by decide))); replace m := mA (hp_); replace HB := mA ((by rw [hw]; exact Zbs (HB.out) bG.out : Below w.heap.size w bm)); clear hg hw hp_))
         go_roundg aq
         case measure => have := O.out; have := P.out; have := W.out; have := T.out; omega
         case rel => exact ⟨(bg), (true), (wrap64 (j + 1)), (eW), (eW), H', ⟨by have := O.out; have := P.out; have := W.out; have := T.out; omega⟩, ⟨rP m.out⟩, ⟨bP a.out⟩, ⟨bW⟩⟩
def Zb9.f (b : Int) (a : Int) (c : Int) (d : List (List Int)) (a1 : Int) : Option (Int) := if a1 = 0 then (some a) else (if a1 = a then (some 0) else (some a1))
theorem Zb9.calls (d : Int) (b : Int) (g : Int) (i : Option Addr) (j : Nat) (c : List (List Int)) (a1 : Int) (r : Int) (w : World) (k : Kd.C (Kd.slice 2 (Kd.int .i64)) w i c.length c) (l : c.length ≤ j) (h : Zb9.f d b g c a1 = some r) :
  Calls Tryd.prog 86 #[.agg #[.int .i64 d, .int .i64 b, .int .i64 g, .slice i c.length j], .int .i64 a1] w fun e w' => e = .returned (.int .i64 r) ∧ Below w.heap.size w w' := by
 have ae := Tryd.underlying34
 have ac := mA k
 have ad := mA l
 clear k l
 have HB := mA (Below.refl w.heap.size w)
 unfold Zb9.f at h
 have H := h
 clear h
 by_cases c3 : a1 = 0
 ·rw [if_pos c3] at H
  have p : (a1 == 0) = true := beq_iff_eq.mpr c3
  have q : (a1 != 0) = false := bne_eq_false_iff_eq.mpr c3
  clear c3
  obtain rfl := oI H
  go_enter Tryd.func86, Tryd.ntmps86
  go_wp2_with (first | ((with_reducible refine Zan (N := 2) rfl ?_); refine boxS (N := 2) (cs := #[.int .i64 d, .int .i64 b, .int .i64 g, .slice i c.length j]) (t := 34) ?_; intro m hg w4 hbox hb; have a := mA (hbox); have n := geW (w := w) hg; have o := geW (w := w) hg; replace HB := mA (Zac (bW) hb); clear hb hbox hg; obtain ⟨G, I, J, K⟩ := Zbk a.out; obtain ⟨L, M, O, P⟩ := frz4 a.out))
  go_ret
  exact ⟨eW, bW⟩
 rw [if_neg c3] at H
 have p : (a1 == 0) = false := beq_eq_false_iff_ne.mpr c3
 have q : (a1 != 0) = true := bne_iff_ne.mpr c3
 by_cases c6 : a1 = b; rotate_left
 ·rw [if_neg c6] at H
  have s : (a1 == b) = false := beq_eq_false_iff_ne.mpr c6
  have u : (a1 != b) = true := bne_iff_ne.mpr c6
  obtain rfl := oI H
  go_enter Tryd.func86, Tryd.ntmps86
  go_wp2_with (first | ((with_reducible refine Zan (N := 2) rfl ?_); refine boxS (N := 2) (cs := #[.int .i64 d, .int .i64 b, .int .i64 g, .slice i c.length j]) (t := 34) ?_; intro m hg w9 hbox hb; have a := mA (hbox); have n := geW (w := w) hg; have o := geW (w := w) hg; replace HB := mA (Zac (bW) hb); clear hb hbox hg; obtain ⟨v, x, y, z⟩ := Zbk a.out; obtain ⟨A, B, D, E⟩ := frz4 a.out))
  go_ret
  exact ⟨eW, bW⟩
 rw [if_pos c6] at H
 have s : (a1 == b) = true := beq_iff_eq.mpr c6
 have u : (a1 != b) = false := bne_eq_false_iff_eq.mpr c6
 clear c6
 obtain rfl := oI H
 go_enter Tryd.func86, Tryd.ntmps86
 go_wp2_with (first | ((with_reducible refine Zan (N := 2) rfl ?_); refine boxS (N := 2) (cs := #[.int .i64 d, .int .i64 b, .int .i64 g, .slice i c.length j]) (t := 34) ?_; intro m hg w7 hbox hb; have a := mA (hbox); have n := geW (w := w) hg; have o := geW (w := w) hg; replace HB := mA (Zac (bW) hb); clear hb hbox hg; obtain ⟨T, U, W, X⟩ := Zbk a.out; obtain ⟨Y, Z, aa, ab⟩ := frz4 a.out))
 go_ret
 exact ⟨eW, bW⟩
end Go.Proofs.YtlmicipfikammaaDoor.P
end
