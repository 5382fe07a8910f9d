import Derived.Test.YtlmicipfikammaaDoorCFnExactLoopFault10
import Derived.Test.YtlmicipfikammaaDoorCFnExactLoopFault11
section
namespace Go.Proofs.YtlmicipfikammaaDoor.P
open Go.RowKit Go.Proofs.YtlmicipfikammaaDoor.Sh Go.Proofs.YtlmicipfikammaaDoorW.PrintWords Go.Proofs.YtlmicipfikammaaDoorW.PrintLast Go.Proofs.YtlmicipfikammaaDoorW.PrintMore
open Kd
attribute [local go_sem] Zb8 Zcb Zcm Zcl Zb4 Zb3 Zb7 Zcd   -- for this text's walks alone
set_option linter.unusedVariables false
set_option linter.unusedSimpArgs false
mutual
def Zaz.l0 : Nat → Int → Int → Int → List Int → Option (Bool)
 | 0, _, _, _, _ => none
 | k + 1, x1, x5, a, b => (Zbv.f k x5).bind fun c => (Zaz.l1 k x1 x5 x5 c (c.length : Int) 0 a b)
def Zaz.l1 : Nat → Int → Int → Int → List Int → Int → Int → Int → List Int → Option (Bool)
 | 0, _, _, _, _, _, _, _, _ => none
 | k + 1, x1, x5, x6, d, e, b, c, a => if b < e then (if 0 ≤ b then (if b < (d.length : Int) then (if 0 ≤ (rd d b) then (if (rd d b) < (a.length : Int) then (Zaz.l1 k x1 x5 (Go.bits .or .i64 x6 (Go.bits .and .i64 (rd a (rd d b)) x1)) d e (wrap64 (b + 1)) c a) else (none)) else (none)) else (none)) else (none)) else (if x6 = x5 then (some (x5 == x1)) else (Zaz.l0 k x1 x6 c a))
end
def Zaz.f (k : Nat) (a : Int) (b : List Int) (a1 : Int) : Option (Bool) := if a1 = 0 then (some true) else ((Zc1.f a1).bind fun c => ((Zb5.f c).bind fun d => (Zaz.l0 k a1 d a b)))
set_option maxHeartbeats 8000000 in
set_option maxRecDepth 100000 in
theorem Zaz.calls (k : Nat) (j : Int) (l : Option Addr) (m : Nat) (c : List Int) (a1 : Int) (r : Bool) (w : World) (z : Kd.C (Kd.int .i64) w l c.length c) (A : c.length ≤ m) (h : Zaz.f k j c a1 = some r) (hTab : Tab w) :
  Calls Tryd.prog 52 #[.agg #[.int .i64 j, .slice l c.length m], .int .i64 a1] w fun e w' => e = .returned (.bool r) ∧ Below w.heap.size w w' := by
 have HTab := mA hTab
 clear hTab
 have ao := Tryd.underlying32
 have L := mA z
 have ah := mA A
 clear z A
 have HB := mA (Below.refl w.heap.size w)
 unfold Zaz.f at h
 have H := h
 clear h
 by_cases c3 : a1 = 0
 ·rw [if_pos c3] at H
  have I : (a1 == 0) = true := beq_iff_eq.mpr c3
  have J : (a1 != 0) = false := bne_eq_false_iff_eq.mpr c3
  clear c3
  obtain rfl := oI H
  go_enter Tryd.func52, Tryd.ntmps52
  go_wp2_with (first | ((with_reducible refine Zan (N := 2) rfl ?_); refine boxS (N := 2) (cs := #[.int .i64 j, .slice l c.length m]) (t := 32) ?_; intro n hg w4 hbox hb; have a := mA (hbox); have M := geW (w := w) hg; have O := geW (w := w) hg; replace HB := mA (Zac (bW) hb); clear hb hbox hg))
  go_ret
  exact ⟨eW, bW⟩
 rw [if_neg c3] at H
 have I : (a1 == 0) = false := beq_eq_false_iff_ne.mpr c3
 have J : (a1 != 0) = true := bne_iff_ne.mpr c3
 obtain ⟨s, A5, H⟩ := bA H
 obtain ⟨K, A6, H⟩ := bA H
 have H' := mA H
 clear H
 go_enter Tryd.func52, Tryd.ntmps52
 go_wp2_with (first | ((with_reducible refine Zan (N := 2) rfl ?_); refine boxS (N := 2) (cs := #[.int .i64 j, .slice l c.length m]) (t := 32) ?_; intro n hg w7 hbox hb; have a := mA (hbox); have M := geW (w := w) hg; have O := geW (w := w) hg; replace HB := mA (Zac (bW) hb); clear hb hbox hg) | ((with_reducible refine Zal (f := 89) rfl ?_); refine Zbc (some 12) Tryd.func89 #[.int .i64 a1] ?_; (with_reducible refine (Zc1.calls a1 s _ A5.out (tabW HTab.out)).mono ?_); rintro e w' ⟨rfl, ⟨nd, rfl⟩⟩; refine ⟨_, rfl, ?_⟩) | ((with_reducible refine Zal (f := 88) rfl ?_); refine Zbc (some 13) Tryd.func88 #[.int .i64 s] ?_; (with_reducible refine (Zb5.calls s K _ A6.out).mono ?_); rintro e w' ⟨rfl, ⟨nd, rfl⟩⟩; refine ⟨_, rfl, ?_⟩))
 go_loopg [5] k (fun kq v5 w' => ∃ (d : Int), v5 = .int .i64 d ∧ Zab (Zaz.l0 kq a1 d j c = some r) ∧ Zab (kq ≤ k) ∧ Zab (w'.heap[n]? = some (.cells #[.int .i64 j, (.slice l c.length m)] 32 (0, 0))) ∧ Zab (Below w.heap.size w w'))
 case atStart => exact ⟨(K), (eW), H', ⟨Nat.le_refl _⟩, ⟨bP a.out⟩, ⟨bW⟩⟩
 case round =>
  clear H' c3 I J
  obtain ⟨d, rfl, HA, B, a, HB⟩ := hrel
  cases gk with
  | zero => exact absurd HA.out (by simp [Zaz.l0])
  | succ k1 =>
   have H := HA.out
   clear HA
   simp only [Zaz.l0] at H
   obtain ⟨g, A8, H⟩ := bA H
   have H' := mA H
   clear H
   go_wp2_with (first | ((with_reducible refine Zal (f := 80) rfl ?_); refine Zbc (some 16) Tryd.func80 #[.int .i64 d] ?_; (with_reducible refine (Zbv.calls k1 d g _ A8.out (tabW HTab.out)).mono ?_); rintro e w9 ⟨ap, rfl, W, hb⟩; refine ⟨_, rfl, ?_⟩; have D := mA (zQ W (Zao (bW))); replace a := mA (blkB a.out hb); replace HB := mA (Zac (bW) hb); (try clear hb); (try clear hb2); (try clear hk); (try clear hi); (try clear W); obtain ⟨X, Y, Z⟩ := zH D.out; subst Z))
   go_loopg [6, 18] k1 (fun kq v6 v18 w' => ∃ (i : Int) (b : Int), v6 = .int .i64 i ∧ v18 = .int .i64 b ∧ Zab (Zaz.l1 kq a1 d i g (g.length : Int) b j c = some r) ∧ Zab (kq ≤ k1) ∧ Zab (Kd.R (Kd.int .i64) 2 w' w.heap.size (fun _ => True) (.slice X g.length Y) g) ∧ Zab (w'.heap[n]? = some (.cells #[.int .i64 j, (.slice l c.length m)] 32 (0, 0))) ∧ Zab (Below w.heap.size w w'))
   case atStart => exact ⟨(d), (0), (eW), (eW), H', ⟨Nat.le_refl _⟩, ⟨rP D.out⟩, ⟨bP a.out⟩, ⟨bW⟩⟩
   case round =>
    clear H'
    obtain ⟨i, b, rfl, rfl, HA, E, G, a, HB⟩ := hrel
    cases gk with
    | zero => exact absurd HA.out (by simp [Zaz.l1])
    | succ k2 =>
     have H := HA.out
     clear HA
     simp only [Zaz.l1] at H
     by_cases q : b < (g.length : Int); rotate_left
     ·rw [if_neg q] at H
      have P := dF q
      clear q
      by_cases p : i = d
      ·rw [if_pos p] at H
       have T : (i == d) = true := beq_iff_eq.mpr p
       have U : (i != d) = false := bne_eq_false_iff_eq.mpr p
       clear p
       obtain rfl := oI H
       go_wp2
       go_ret
       exact ⟨eW, bW⟩
      rw [if_neg p] at H
      have T : (i == d) = false := beq_eq_false_iff_ne.mpr p
      have U : (i != d) = true := bne_iff_ne.mpr p
      have H' := mA H
      clear H
      go_wp2
      go_roundg k2
      case measure => have := B.out; have := E.out; omega
      case rel => exact ⟨(i), (eW), H', ⟨by have := B.out; have := E.out; omega⟩, ⟨bP a.out⟩, ⟨bW⟩⟩
     rw [if_pos q] at H
     have P := dT q
     clear q
     obtain ⟨ai, H⟩ := gE H
     obtain ⟨aj, H⟩ := gE H
     obtain ⟨ak, H⟩ := gE H
     obtain ⟨al, H⟩ := gE H
     have H' := mA H
     clear H
     have u : 0 ≤ (b : Int) := ofD
     have v : b < (g.length : Int) := ofD
     obtain ⟨am, aa, ac⟩ := zK (zF G.out).2.2 b u v
     cases aa
     replace u := eq_true u
     replace v := eq_true v
     have ad : wr.cell? ⟨n, 0, none⟩ = some (.int .i64 j) := bc a 0
     have ae : wr.cell? ⟨n, 1, none⟩ = some (.slice l c.length m) := bc a 1
     have af := Zaa a.out 0
     have ag := Zaa a.out 1
     have x : 0 ≤ ((rd g b) : Int) := ofD
     have y : (rd g b) < (c.length : Int) := ofD
     obtain ⟨an, ab, o⟩ := zK L.out (rd g b) x y
     cases ab
     replace o := (HB.out.cell (wB w o)).trans o
     replace x := eq_true x
     replace y := eq_true y
     go_wp2
     go_roundg k2
     case measure => have := B.out; have := E.out; omega
     case rel => exact ⟨(Go.bits .or .i64 i (Go.bits .and .i64 (rd c (rd g b)) a1)), (wrap64 (b + 1)), (eW), (eW), H', ⟨by have := B.out; have := E.out; omega⟩, ⟨rP G.out⟩, ⟨bP a.out⟩, ⟨bW⟩⟩
mutual
def Za2.l0 : Nat → List Bool → Int → Int → Int → List Int → Int → Int → List Bool → List (List Int) → Option (Int × Int × Int)
 | 0, _, _, _, _, _, _, _, _, _ => none
 | k + 1, i, j, e, g, h, a, b, c, d => if e < j then (if 0 ≤ e then (if e < (i.length : Int) then (if rdOf false i e = true then ((Zaf.f k a b c d e).bind fun l => (Za2.l1 k e i j e l (l.length : Int) 0 g h a b c d)) else (Za2.l0 k i j (wrap64 (e + 1)) g h a b c d)) else (none)) else (none)) else (some (0, 0, 4))
def Za2.l1 : Nat → Int → List Bool → Int → Int → List Bool → Int → Int → Int → List Int → Int → Int → List Bool → List (List Int) → Option (Int × Int × Int)
 | 0, _, _, _, _, _, _, _, _, _, _, _, _, _ => none
 | k + 1, x9, j, l, m, i, n, h, a, b, c, d, e, g => if h < n then (if 0 ≤ h then (if h < (i.length : Int) then (if rdOf false i h = true then ((Zaz.f k a b h).bind fun o => (if o = true then (Za2.l1 k x9 j l m i n (wrap64 (h + 1)) a b c d e g) else (some (x9, h, 0)))) else (Za2.l1 k x9 j l m i n (wrap64 (h + 1)) a b c d e g)) else (none)) else (none)) else (Za2.l0 k j l (wrap64 (m + 1)) a b c d e g)
end
def Za2.f (k : Nat) (b : Int) (c : List Int) (d : Int) (e : Int) (g : Int) (h : List (List Int)) : Option (Int × Int × Int) := (Zcr.f k b c (([(⟨d, e, g, h⟩ : S34)] : List (S34)))).bind fun i => (if i = 0 then ((Zbd.f k d e g h).bind fun a => ((Zad.f k a.1 a.2.1 a.2.2.1 a.2.2.2).bind fun j => (Za2.l0 k j (j.length : Int) 0 b c a.1 a.2.1 a.2.2.1 a.2.2.2))) else (some (0, 0, i)))
set_option maxHeartbeats 8000000 in
set_option maxRecDepth 100000 in
theorem Za2.calls (k : Nat) (O : Int) (ad : Option Addr) (ae : Nat) (A : List Int) (B : Int) (D : Int) (E : Int) (y : Nat → Prop) (X : Option Addr) (Y : Nat) (u : List (List Int)) (r1 : Int) (r2 : Int) (r3 : Int) (w : World) (aR : Kd.C (Kd.int .i64) w ad A.length A) (aS : A.length ≤ ae) (bH : Kd.V (Kd.slice 2 (Kd.int .i64)) 22 w w.heap.size (fun k_ => y k_) (.slice X u.length Y) u) (h : Za2.f k O A B D E u = some (r1, r2, r3)) (hTab : Tab w) :
  Calls Tryd.prog 19 #[.agg #[.int .i64 O, .slice ad A.length ae], .agg #[.int .i64 B, .int .i64 D, .int .i64 E, .slice X u.length Y]] w fun e w' => e = .returned (.tuple #[.int .i64 r1, .int .i64 r2, .int .i64 r3]) ∧ Below w.heap.size w w' := by
 have HTab := mA hTab
 clear hTab
 have cQ := Tryd.underlying32
 have cR := Tryd.underlying34
 have cS := Tryd.underlying66
 have aE := mA aR
 have aF := mA aS
 clear aR aS
 have l := mA (show Kd.V (Kd.slice 2 (Kd.int .i64)) 22 w w.heap.size (fun k_ => (y k_ ∨ w.heap.size ≤ k_)) (.slice X u.length Y) u from zU bH (fun k_ hk => .inl hk))
 have HB := mA (Below.refl w.heap.size w)
 unfold Za2.f at h
 have H := h
 clear h
 obtain ⟨ax, az⟩ := nm ((([(⟨B, D, E, u⟩ : S34)] : List (S34))) : List (S34))
 rw [← az.out] at H
 obtain ⟨ay, A3, H⟩ := bA H
 by_cases c4 : ay = 0; rotate_left
 ·rw [if_neg c4] at H
  have bF : (ay == 0) = false := beq_eq_false_iff_ne.mpr c4
  have bG : (ay != 0) = true := bne_iff_ne.mpr c4
  simp only [Option.some.injEq, Prod.mk.injEq] at H
  obtain ⟨rfl, rfl, rfl⟩ := H
  go_enter Tryd.func19, Tryd.ntmps19
  go_wp2_with (first | ((with_reducible refine Zan (N := 2) rfl ?_); refine boxS (N := 2) (cs := #[.int .i64 O, .slice ad A.length ae]) (t := 32) ?_; intro i hg cY hbox hb; replace l := mA (yJ (yV (by (with_reducible repeat (first | apply zN | apply zO | apply zL)); exact l.out) i (Nat.le_of_eq hg.symm)) hb); have a := mA (hbox); have bI := geW (w := w) hg; have bJ := geW (w := w) hg; replace HB := mA (Zac (bW) hb); clear hb hbox hg) | ((with_reducible refine Zan (N := 3) rfl ?_); refine boxS (N := 3) (cs := #[.int .i64 B, .int .i64 D, .int .i64 E, .slice X u.length Y]) (t := 34) ?_; intro q hg cq hbox hb; replace l := mA (yJ (yV (by (with_reducible repeat (first | apply zN | apply zO | apply zL)); exact l.out) q (Nat.le_of_eq hg.symm)) hb); have d := mA (hbox); have bK := geW (w := w) hg; have bL := geW (w := w) hg; replace HB := mA (Zac (bW) hb); have ah := mA (neB hg a); have ai := mA (neC hg a); replace a := mA (blkB a.out hb); clear hb hbox hg; have ct := ah.out; have cu := ai.out; obtain ⟨b6, b7⟩ := Zcg a.out; obtain ⟨b8, b9⟩ := frz2 a.out; obtain ⟨ca, cb, cc, cd⟩ := Zbk d.out; obtain ⟨ce, cf, cg, ch⟩ := frz4 d.out) | ((with_reducible refine Zan (N := 15) rfl ?_); refine Kd.N_lit k34 _ 34 ?hg (N' := 15) ?hd (xs := ([(⟨B, D, E, u⟩ : S34)] : List (S34))) (inner := [.int .i64 B, .int .i64 D, .int .i64 E, .slice X u.length Y]) (ok := (fun k_ => (y k_ ∨ w.heap.size ≤ k_) ∧ k_ ≠ i ∧ k_ ≠ q)) (okp := (fun k_ => (y k_ ∨ w.heap.size ≤ k_) ∧ k_ ≠ i ∧ k_ ≠ q)) ?hr ?hp (fun _ hk => hk) ((show ∀ k_, cq.heap.size ≤ k_ → (fun k_ => (y k_ ∨ w.heap.size ≤ k_) ∧ k_ ≠ i ∧ k_ ≠ q) k_ from fun k_ hk => ⟨(.inr (Nat.le_trans (Zao (bW)) hk)), yW (g := i) (o := .cells #[.int .i64 O, .slice ad A.length ae] 32 (0, 0)) (bP a.out) k_ hk, yW (g := q) (o := .cells #[.int .i64 B, .int .i64 D, .int .i64 E, .slice X u.length Y] 34 (0, 0)) (bP d.out) k_ hk⟩) _ (Nat.le_refl _)) (Below.refl _ _) (Nat.le_refl _) (by simp) ?_; (case hd => rfl); (case hg => rfl); (case hr => first | (go_simp; done) | (go_simp; rfl)); (case hp => exact (Reps.c4 (show Kd.FK k34 _ _ (⟨B, D, E, u⟩ : S34) [.int .i64 B, .int .i64 D, .int .i64 E, .slice X u.length Y] from (k34_mkF _ _ (⟨B, D, E, u⟩ : S34) (xH (zU (ok' := (fun k_ => (y k_ ∨ w.heap.size ≤ k_) ∧ k_ ≠ i ∧ k_ ≠ q)) (l.out) (fun k_ hk => ⟨hk.1.1, ⟨hk.1.2, hk.2⟩⟩))).2.1 (Kd.V_F (zU (ok' := (fun k_ => (y k_ ∨ w.heap.size ≤ k_) ∧ k_ ≠ i ∧ k_ ≠ q)) (l.out) (fun k_ hk => ⟨hk.1.1, ⟨hk.1.2, hk.2⟩⟩))))) (Reps.none _ _))); intro bS cZ aA hb hg_ hnew_; clear hg_ hnew_; (first | rw [← az.out] at aA | (simp only [Int.reduceToNat] at aA; rw [← az.out] at aA)); replace l := mA (xD (by (with_reducible repeat (first | apply zN | apply zO | apply zL)); exact l.out) (Kd.N_base aA) hb); have I := mA (Kd.N_lower aA (Zao (bW))); replace a := mA (blkB a.out hb); replace d := mA (blkB d.out hb); replace HB := mA (Zac (bW) hb); clear hb aA; obtain ⟨bT, bU, bV⟩ := Kd.N_slice I.out; subst bV) | ((with_reducible refine Zal (f := 41) rfl ?_); refine Zbc (some 16) Tryd.func41 #[.agg #[.int .i64 O, .slice ad A.length ae], .slice bT ax.length bU] ?_; (with_reducible refine (Zcr.calls k O _ _ A _ _ ax ay _ ?side1 ?side2 ?side3 ?side4 A3.out (tabW HTab.out)).mono ?_); (case side1 => exact cP (zC aE.out HB.out)); (case side2 => exact aF.out); (case side3 => exact cP ((Kd.N_reads' I.out).2.2)); (case side4 => exact (Kd.N_reads' I.out).2.1); rintro e c0 ⟨rfl, hb⟩; refine ⟨_, rfl, ?_⟩; replace l := mA (yJ (by (with_reducible repeat (first | apply zN | apply zO | apply zL)); exact l.out) hb); replace I := mA (xC (by (with_reducible repeat (first | apply xF | apply xG | apply Kd.N_drew)); exact I.out) hb); replace a := mA (blkB a.out hb); replace d := mA (blkB d.out hb); replace HB := mA (Zac (bW) hb); (try clear hb); (try clear hb2); (try clear hk); (try clear hi)))
  go_ret3
  exact ⟨eW, bW⟩
 rw [if_pos c4] at H
 have bF : (ay == 0) = true := beq_iff_eq.mpr c4
 have bG : (ay != 0) = false := bne_eq_false_iff_eq.mpr c4
 clear c4
 obtain ⟨⟨L, P, s, G⟩, A5, H⟩ := bA H
 try dsimp only at H
 obtain ⟨T, A6, H⟩ := bA H
 have H' := mA H
 clear H
 go_enter Tryd.func19, Tryd.ntmps19
 go_wp2_with (first | ((with_reducible refine Zan (N := 2) rfl ?_); refine boxS (N := 2) (cs := #[.int .i64 O, .slice ad A.length ae]) (t := 32) ?_; intro i hg w7 hbox hb; replace l := mA (yJ (yV (by (with_reducible repeat (first | apply zN | apply zO | apply zL)); exact l.out) i (Nat.le_of_eq hg.symm)) hb); have a := mA (hbox); have bI := geW (w := w) hg; have bJ := geW (w := w) hg; replace HB := mA (Zac (bW) hb); clear hb hbox hg) | ((with_reducible refine Zan (N := 3) rfl ?_); refine boxS (N := 3) (cs := #[.int .i64 B, .int .i64 D, .int .i64 E, .slice X u.length Y]) (t := 34) ?_; intro q hg w8 hbox hb; replace l := mA (yJ (yV (by (with_reducible repeat (first | apply zN | apply zO | apply zL)); exact l.out) q (Nat.le_of_eq hg.symm)) hb); have d := mA (hbox); have bK := geW (w := w) hg; have bL := geW (w := w) hg; replace HB := mA (Zac (bW) hb); have ah := mA (neB hg a); have ai := mA (neC hg a); replace a := mA (blkB a.out hb); clear hb hbox hg; have cT := ah.out; have cU := ai.out; obtain ⟨a0, a1⟩ := Zcg a.out; obtain ⟨a2, a3⟩ := frz2 a.out; obtain ⟨a4, a5, a6, a7⟩ := Zbk d.out; obtain ⟨a8, a9, ba, bb⟩ := frz4 d.out) | ((with_reducible refine Zan (N := 15) rfl ?_); refine Kd.N_lit k34 _ 34 ?hg (N' := 15) ?hd (xs := ([(⟨B, D, E, u⟩ : S34)] : List (S34))) (inner := [.int .i64 B, .int .i64 D, .int .i64 E, .slice X u.length Y]) (ok := (fun k_ => (y k_ ∨ w.heap.size ≤ k_) ∧ k_ ≠ i ∧ k_ ≠ q)) (okp := (fun k_ => (y k_ ∨ w.heap.size ≤ k_) ∧ k_ ≠ i ∧ k_ ≠ q)) ?hr ?hp (fun _ hk => hk) ((show ∀ k_, w8.heap.size ≤ k_ → (fun k_ => (y k_ ∨ w.heap.size ≤ k_) ∧ k_ ≠ i ∧ k_ ≠ q) k_ from fun k_ hk => ⟨(.inr (Nat.le_trans (Zao (bW)) hk)), yW (g := i) (o := .cells #[.int .i64 O, .slice ad A.length ae] 32 (0, 0)) (bP a.out) k_ hk, yW (g := q) (o := .cells #[.int .i64 B, .int .i64 D, .int .i64 E, .slice X u.length Y] 34 (0, 0)) (bP d.out) k_ hk⟩) _ (Nat.le_refl _)) (Below.refl _ _) (Nat.le_refl _) (by simp) ?_; (case hd => rfl); (case hg => rfl); (case hr => first | (go_simp; done) | (go_simp; rfl)); (case hp => exact (Reps.c4 (show Kd.FK k34 _ _ (⟨B, D, E, u⟩ : S34) [.int .i64 B, .int .i64 D, .int .i64 E, .slice X u.length Y] from (k34_mkF _ _ (⟨B, D, E, u⟩ : S34) (xH (zU (ok' := (fun k_ => (y k_ ∨ w.heap.size ≤ k_) ∧ k_ ≠ i ∧ k_ ≠ q)) (l.out) (fun k_ hk => ⟨hk.1.1, ⟨hk.1.2, hk.2⟩⟩))).2.1 (Kd.V_F (zU (ok' := (fun k_ => (y k_ ∨ w.heap.size ≤ k_) ∧ k_ ≠ i ∧ k_ ≠ q)) (l.out) (fun k_ hk => ⟨hk.1.1, ⟨hk.1.2, hk.2⟩⟩))))) (Reps.none _ _))); intro bS c1 aB hb hg_ hnew_; clear hg_ hnew_; (first | rw [← az.out] at aB | (simp only [Int.reduceToNat] at aB; rw [← az.out] at aB)); replace l := mA (xD (by (with_reducible repeat (first | apply zN | apply zO | apply zL)); exact l.out) (Kd.N_base aB) hb); have I := mA (Kd.N_lower aB (Zao (bW))); replace a := mA (blkB a.out hb); replace d := mA (blkB d.out hb); replace HB := mA (Zac (bW) hb); clear hb aB; obtain ⟨aN, aO, bX⟩ := Kd.N_slice I.out; subst bX) | ((with_reducible refine Zal (f := 41) rfl ?_); refine Zbc (some 16) Tryd.func41 #[.agg #[.int .i64 O, .slice ad A.length ae], .slice aN ax.length aO] ?_; (with_reducible refine (Zcr.calls k O _ _ A _ _ ax ay _ ?side1 ?side2 ?side3 ?side4 A3.out (tabW HTab.out)).mono ?_); (case side1 => exact cP (zC aE.out HB.out)); (case side2 => exact aF.out); (case side3 => exact cP ((Kd.N_reads' I.out).2.2)); (case side4 => exact (Kd.N_reads' I.out).2.1); rintro e da ⟨rfl, hb⟩; refine ⟨_, rfl, ?_⟩; replace l := mA (yJ (by (with_reducible repeat (first | apply zN | apply zO | apply zL)); exact l.out) hb); replace I := mA (xC (by (with_reducible repeat (first | apply xF | apply xG | apply Kd.N_drew)); exact I.out) hb); replace a := mA (blkB a.out hb); replace d := mA (blkB d.out hb); replace HB := mA (Zac (bW) hb); (try clear hb); (try clear hb2); (try clear hk); (try clear hi); obtain ⟨bd, bf, bg, bh⟩ := Zbk d.out; obtain ⟨bi, bj, bk, bl⟩ := frz4 d.out) | ((with_reducible refine Zal (f := 43) rfl ?_); refine Zbc (some 21) Tryd.func43 #[.agg #[.int .i64 B, .int .i64 D, .int .i64 E, .slice X u.length Y]] ?_; (with_reducible refine (Zbd.calls k B D E (fun k_ => ((((y k_ ∨ w.heap.size ≤ k_) ∧ k_ ≠ i) ∧ k_ ≠ q) ∧ some k_ ≠ (.slice aN ax.length aO : Value).ownBlock)) _ _ u L P s G _ ?side1 A5.out).mono ?_); (case side1 => exact l.out); rintro e db ⟨bY, cV, rfl, ag, bQ, hb⟩; refine ⟨_, rfl, ?_⟩; replace l := mA (xD (by (with_reducible repeat (first | apply zN | apply zO | apply zL)); exact l.out) (zY ag) hb); have aj := mA (zQ (Kd.R_newM (M := fun k_ => (w.heap.size ≤ k_)) (zA (ok' := fun k_ => True) ag (fun _ hk_ => trivial)) (Zao (bW)) (fun k_ h_ => h_)) (Zao (bW))); have an := mA (Kd.V_lower (zU (ok' := fun k_ => (y k_ ∨ w.heap.size ≤ k_) ∧ some k_ ≠ (bY : Value).ownBlock ∧ some k_ ≠ (.slice aN ax.length aO : Value).ownBlock ∧ k_ ≠ i ∧ k_ ≠ q) bQ (fun k_ hk_ => ⟨Or.elim hk_.1 (fun hs_ => hs_.1.1.1) (fun hn_ => (.inr (Nat.le_trans (Zao (bW)) hn_))), hk_.2, Or.elim hk_.1 (fun hs_ => hs_.2) (fun hn_ => (Kd.fresh' (Kd.N_lt (by (with_reducible repeat (first | apply xF | apply xG | apply Kd.N_drew)); exact I.out)) k_ hn_)), Or.elim hk_.1 (fun hs_ => hs_.1.1.2) (fun hn_ => (yW (g := i) (o := .cells #[.int .i64 O, .slice ad A.length ae] 32 (0, 0)) (bP a.out) k_ hn_)), Or.elim hk_.1 (fun hs_ => hs_.1.2) (fun hn_ => (yW (g := q) (o := .cells #[.int .i64 B, .int .i64 D, .int .i64 E, .slice X u.length Y] 34 (0, 0)) (bP d.out) k_ hn_))⟩)) (Zao (bW))); replace I := mA (Kd.N_elder' (by (with_reducible repeat (first | apply xF | apply xG | apply Kd.N_drew)); exact I.out) (zY ag) hb); replace a := mA (blkB a.out hb); replace d := mA (blkB d.out hb); replace HB := mA (Zac (bW) hb); (try clear hb); (try clear hb2); (try clear hk); (try clear hi); (try clear ag); (try clear bQ)) | ((with_reducible refine Zan (N := 8) rfl ?_); refine boxS (N := 8) (cs := #[.int .i64 0, .int .i64 0, .slice none 0 0, .slice none 0 0]) (t := 66) ?_; intro b hg dc hbox hb; replace l := mA (yJ (yV (by (with_reducible repeat (first | apply zN | apply zO | apply zL)); exact l.out) b (Nat.le_of_eq hg.symm)) hb); replace I := mA (xC (Kd.N_elderB (by (with_reducible repeat (first | apply xF | apply xG | apply Kd.N_drew)); exact I.out) b (Nat.le_of_eq hg.symm)) hb); replace aj := mA (zG (rP aj.out) hb); replace an := mA (yJ (yV (by (with_reducible repeat (first | apply zN | apply zO | apply zL)); exact an.out) b (Nat.le_of_eq hg.symm)) hb); have j := mA (hbox); have cv := geW (w := w) hg; have cw := geW (w := w) hg; replace HB := mA (Zac (bW) hb); have U := mA (neB hg a); have ao := mA (neC hg a); replace a := mA (blkB a.out hb); have ab := mA (neB hg d); have aC := mA (neC hg d); replace d := mA (blkB d.out hb); clear hb hbox hg; have cx := ao.out; have cy := U.out; have cz := aC.out; have cA := ab.out; obtain ⟨bm, bn, bo, bp⟩ := Zbk j.out; obtain ⟨bq, br, bs, bu⟩ := frz4 j.out; obtain ⟨z, x, bZ⟩ := zH aj.out; subst bZ; obtain ⟨aa, Z, b0⟩ := Kd.V_slice an.out; subst b0) | ((with_reducible refine Zal (f := 50) rfl ?_); refine Zbc (some 23) Tryd.func50 #[.agg #[.int .i64 L, .int .i64 P, .slice z s.length x, .slice aa G.length Z]] ?_; (with_reducible refine (Zad.calls k L P _ _ s _ _ G T _ ?side1 ?side2 ?side3 ?side4 A6.out).mono ?_); (case side1 => refine (zF (e := 4) (base := w.heap.size) (ok := fun k_ => ((w.heap.size ≤ k_) ∧ True)) (n := s.length) (c := x) ?_).2.2; exact (by (with_reducible repeat (first | apply zE | apply zD | apply zB)); exact (zA (zJ (p := ⟨b, 3, none⟩) (zJ (p := ⟨b, 2, none⟩) (zJ (p := ⟨b, 1, none⟩) (zJ (p := ⟨b, 0, none⟩) (yE aj.out j.out (by decide)) (fun _ hk => hk.2) (.int .i64 L)) (fun _ hk => hk.2) (.int .i64 P)) (fun _ hk => hk.2) (.slice z s.length x)) (fun _ hk => hk.2) (.slice aa G.length Z)) (fun _ h_ => h_.1)))); (case side2 => exact (zF aj.out).2.1); (case side3 => refine (xH (e := 22) (base := w.heap.size) (ok := fun k_ => (((y k_ ∨ w.heap.size ≤ k_) ∧ (some k_ ≠ (.slice z s.length x : Value).ownBlock ∧ (some k_ ≠ (.slice aN ax.length aO : Value).ownBlock ∧ (k_ ≠ i ∧ k_ ≠ q)))) ∧ k_ ≠ b)) (n := G.length) (c := Z) ?_).2.2; exact (by (with_reducible repeat (first | apply zN | apply zO | apply zL)); exact (zU (zX (p := ⟨b, 3, none⟩) (zX (p := ⟨b, 2, none⟩) (zX (p := ⟨b, 1, none⟩) (zX (p := ⟨b, 0, none⟩) (zU an.out (fun k_ hk => (⟨hk, hk.2⟩ : _ ∧ k_ ≠ b))) (fun _ hk => hk.2) (.int .i64 L)) (fun _ hk => hk.2) (.int .i64 P)) (fun _ hk => hk.2) (.slice z s.length x)) (fun _ hk => hk.2) (.slice aa G.length Z)) (fun _ h_ => h_.1)))); (case side4 => exact (xH an.out).2.1); rintro e dd ⟨cW, rfl, ag, hb⟩; refine ⟨_, rfl, ?_⟩; replace l := mA (xD (by (with_reducible repeat (first | apply zN | apply zO | apply zL)); exact (zU (zX (p := ⟨b, 3, none⟩) (zX (p := ⟨b, 2, none⟩) (zX (p := ⟨b, 1, none⟩) (zX (p := ⟨b, 0, none⟩) (zU l.out (fun k_ hk => (⟨hk, hk.2⟩ : _ ∧ k_ ≠ b))) (fun _ hk => hk.2) (.int .i64 L)) (fun _ hk => hk.2) (.int .i64 P)) (fun _ hk => hk.2) (.slice z s.length x)) (fun _ hk => hk.2) (.slice aa G.length Z)) (fun _ h_ => h_.1))) (zY ag) hb); replace I := mA (Kd.N_elder' (by (with_reducible repeat (first | apply xF | apply xG | apply Kd.N_drew)); exact (Kd.N_mono (Kd.N_far (p := ⟨b, 3, none⟩) (Kd.N_far (p := ⟨b, 2, none⟩) (Kd.N_far (p := ⟨b, 1, none⟩) (Kd.N_far (p := ⟨b, 0, none⟩) (Kd.N_mono I.out (fun k_ hk => (⟨hk, hk.2⟩ : _ ∧ k_ ≠ b))) (fun _ hk => hk.2) (.int .i64 L)) (fun _ hk => hk.2) (.int .i64 P)) (fun _ hk => hk.2) (.slice z s.length x)) (fun _ hk => hk.2) (.slice aa G.length Z)) (fun _ h_ => h_.1))) (zY ag) hb); replace an := mA (xD (by (with_reducible repeat (first | apply zN | apply zO | apply zL)); exact (zU (zX (p := ⟨b, 3, none⟩) (zX (p := ⟨b, 2, none⟩) (zX (p := ⟨b, 1, none⟩) (zX (p := ⟨b, 0, none⟩) (zU an.out (fun k_ hk => (⟨hk, hk.2⟩ : _ ∧ k_ ≠ b))) (fun _ hk => hk.2) (.int .i64 L)) (fun _ hk => hk.2) (.int .i64 P)) (fun _ hk => hk.2) (.slice z s.length x)) (fun _ hk => hk.2) (.slice aa G.length Z)) (fun _ h_ => h_.1))) (zY ag) hb); have aT := mA (zQ (yM (Kd.R_newM (M := fun k_ => (w.heap.size ≤ k_)) ag (Zao (bW)) (fun k_ h_ => h_)) (yF (by (with_reducible repeat (first | apply zE | apply zD | apply zB)); exact (zA (zJ (p := ⟨b, 3, none⟩) (zJ (p := ⟨b, 2, none⟩) (zJ (p := ⟨b, 1, none⟩) (zJ (p := ⟨b, 0, none⟩) (yE aj.out j.out (by decide)) (fun _ hk => hk.2) (.int .i64 L)) (fun _ hk => hk.2) (.int .i64 P)) (fun _ hk => hk.2) (.slice z s.length x)) (fun _ hk => hk.2) (.slice aa G.length Z)) (fun _ h_ => h_.1))))) (Zao (bW))); replace aj := mA (yL (by (with_reducible repeat (first | apply zE | apply zD | apply zB)); exact (zA (zJ (p := ⟨b, 3, none⟩) (zJ (p := ⟨b, 2, none⟩) (zJ (p := ⟨b, 1, none⟩) (zJ (p := ⟨b, 0, none⟩) (yE aj.out j.out (by decide)) (fun _ hk => hk.2) (.int .i64 L)) (fun _ hk => hk.2) (.int .i64 P)) (fun _ hk => hk.2) (.slice z s.length x)) (fun _ hk => hk.2) (.slice aa G.length Z)) (fun _ h_ => h_.1))) (zY ag) hb); replace a := mA (Zco (g := i) (o := .cells #[.int .i64 O, .slice ad A.length ae] 32 (0, 0)) (by (with_reducible repeat (first | refine Zai ?_ _ | refine Zah ?_ | refine Zag ?_ _)); refine Zbb ?_ U.out _; (with_reducible repeat (first | refine Zai ?_ _ | refine Zah ?_ | refine Zag ?_ _)); refine Zbb ?_ U.out _; (with_reducible repeat (first | refine Zai ?_ _ | refine Zah ?_ | refine Zag ?_ _)); refine Zbb ?_ U.out _; (with_reducible repeat (first | refine Zai ?_ _ | refine Zah ?_ | refine Zag ?_ _)); refine Zbb ?_ U.out _; exact bP a.out) hb); replace d := mA (Zco (g := q) (o := .cells #[.int .i64 B, .int .i64 D, .int .i64 E, .slice X u.length Y] 34 (0, 0)) (by (with_reducible repeat (first | refine Zai ?_ _ | refine Zah ?_ | refine Zag ?_ _)); refine Zbb ?_ ab.out _; (with_reducible repeat (first | refine Zai ?_ _ | refine Zah ?_ | refine Zag ?_ _)); refine Zbb ?_ ab.out _; (with_reducible repeat (first | refine Zai ?_ _ | refine Zah ?_ | refine Zag ?_ _)); refine Zbb ?_ ab.out _; (with_reducible repeat (first | refine Zai ?_ _ | refine Zah ?_ | refine Zag ?_ _)); refine Zbb ?_ ab.out _; exact bP d.out) hb); replace j := mA (Zco (g := b) (o := .cells #[.int .i64 L, .int .i64 P, .slice z s.length x, .slice aa G.length Z] 66 (0, 0)) (by (with_reducible repeat (first | refine Zai ?_ _ | refine Zah ?_ | refine Zag ?_ _)); refine Zbj (cs := #[.int .i64 L, .int .i64 P, .slice z s.length x, .slice none 0 0]) ?_ 3 _ rfl; (with_reducible repeat (first | refine Zai ?_ _ | refine Zah ?_ | refine Zag ?_ _)); refine Zbj (cs := #[.int .i64 L, .int .i64 P, .slice none 0 0, .slice none 0 0]) ?_ 2 _ rfl; (with_reducible repeat (first | refine Zai ?_ _ | refine Zah ?_ | refine Zag ?_ _)); refine Zbj (cs := #[.int .i64 L, .int .i64 0, .slice none 0 0, .slice none 0 0]) ?_ 1 _ rfl; (with_reducible repeat (first | refine Zai ?_ _ | refine Zah ?_ | refine Zag ?_ _)); refine Zbj (cs := #[.int .i64 0, .int .i64 0, .slice none 0 0, .slice none 0 0]) ?_ 0 _ rfl; exact bP j.out) hb); replace HB := mA (Zac (bW) hb); (try clear hb); (try clear hb2); (try clear hk); (try clear hi); (try clear ag); obtain ⟨aP, ap, b1⟩ := zH aT.out; subst b1))
 go_loopg [25] k (fun kq v25 w' => ∃ (K : Int), v25 = .int .i64 K ∧ Zab (Za2.l0 kq T (T.length : Int) K O A L P s G = some (r1, r2, r3)) ∧ Zab (kq ≤ k) ∧ Zab (Kd.R Kd.bool 4 w' w.heap.size (fun k_ => (w.heap.size ≤ k_) ∧ some k_ ≠ ((.slice z s.length x) : Value).ownBlock) (.slice aP T.length ap) T) ∧ Zab (Kd.V (Kd.slice 2 (Kd.int .i64)) 22 w' w.heap.size (fun k_ => (y k_ ∨ w.heap.size ≤ k_) ∧ some k_ ≠ ((.slice aP T.length ap) : Value).ownBlock ∧ some k_ ≠ ((.slice z s.length x) : Value).ownBlock ∧ k_ ≠ i ∧ k_ ≠ q ∧ k_ ≠ b) (.slice X u.length Y) u) ∧ Zab (Kd.R Kd.bool 4 w' w.heap.size (fun k_ => (w.heap.size ≤ k_) ∧ some k_ ≠ ((.slice aP T.length ap) : Value).ownBlock) (.slice z s.length x) s) ∧ Zab (Kd.V (Kd.slice 2 (Kd.int .i64)) 22 w' w.heap.size (fun k_ => (y k_ ∨ w.heap.size ≤ k_) ∧ some k_ ≠ ((.slice aP T.length ap) : Value).ownBlock ∧ some k_ ≠ ((.slice z s.length x) : Value).ownBlock ∧ k_ ≠ i ∧ k_ ≠ q ∧ k_ ≠ b) (.slice aa G.length Z) G) ∧ Zab (w'.heap[i]? = some (.cells #[.int .i64 O, (.slice ad A.length ae)] 32 (0, 0))) ∧ Zab (w'.heap[q]? = some (.cells #[.int .i64 B, .int .i64 D, .int .i64 E, (.slice X u.length Y)] 34 (0, 0))) ∧ Zab (w'.heap[b]? = some (.cells #[.int .i64 L, .int .i64 P, (.slice z s.length x), (.slice aa G.length Z)] 66 (0, 0))) ∧ Zab (Below w.heap.size w w'))
 case atStart => exact ⟨(0), (eW), H', ⟨Nat.le_refl _⟩, ⟨by (with_reducible repeat (first | apply zE | apply zD | apply zB)); exact zA aT.out (fun _ hk => ⟨hk.1.1, hk.2⟩)⟩, ⟨by (with_reducible repeat (first | apply zN | apply zO | apply zL)); exact zU l.out (fun _ hk => ⟨hk.1.1.1.1.1.1, ⟨hk.2, ⟨hk.1.1.2, ⟨hk.1.1.1.1.1.2, ⟨hk.1.1.1.1.2, hk.1.2⟩⟩⟩⟩⟩)⟩, ⟨by (with_reducible repeat (first | apply zE | apply zD | apply zB)); exact zA aj.out (fun _ hk => ⟨hk.1.1, hk.2⟩)⟩, ⟨by (with_reducible repeat (first | apply zN | apply zO | apply zL)); exact zU an.out (fun _ hk => ⟨hk.1.1.1, ⟨hk.2, ⟨hk.1.1.2.1, ⟨hk.1.1.2.2.2.1, ⟨hk.1.1.2.2.2.2, hk.1.2⟩⟩⟩⟩⟩)⟩, ⟨bP a.out⟩, ⟨bP d.out⟩, ⟨bP j.out⟩, ⟨bW⟩⟩
 case round =>
  clear H' bF bG a0 a1 a4 a5 a6 a7 bd bf bg bh bm bn bo bp a2 a3 a8 a9 ba bb bi bj bk bl bq br bs bu
  obtain ⟨K, rfl, HA, aD, W, v, m, r, a, d, j, HB⟩ := hrel
  cases gk with
  | zero => exact absurd HA.out (by simp [Za2.l0])
  | succ k1 =>
   have H := HA.out
   clear HA
   simp only [Za2.l0] at H
   by_cases aK : K < (T.length : Int); rotate_left
   ·rw [if_neg aK] at H
    have aU := dF aK
    clear aK
    simp only [Option.some.injEq, Prod.mk.injEq] at H
    obtain ⟨rfl, rfl, rfl⟩ := H
    go_wp2
    go_ret3
    exact ⟨eW, bW⟩
   rw [if_pos aK] at H
   have aU := dT aK
   clear aK
   obtain ⟨bM, H⟩ := gE H
   obtain ⟨bN, H⟩ := gE H
   obtain ⟨b2, au⟩ := nm (rdOf false T K)
   rw [← au.out] at H
   by_cases aV : b2 = true; rotate_left
   ·replace aV := Bool.eq_false_iff.mpr aV
    subst aV
    rw [iF] at H
    have H' := mA H
    clear H
    have aq : 0 ≤ (K : Int) := ofD
    have ar : K < (T.length : Int) := ofD
    obtain ⟨av, aQ, aw⟩ := zP (zF W.out).2.2 K aq ar
    (try rw [← au.out] at aw)
    cases aQ
    replace aq := eq_true aq
    replace ar := eq_true ar
    go_wp2
    go_roundg k1
    case measure => have := aD.out; omega
    case rel => exact ⟨(wrap64 (K + 1)), (eW), H', ⟨by have := aD.out; omega⟩, ⟨rP W.out⟩, ⟨by (with_reducible repeat (first | apply zN | apply zO | apply zL)); exact v.out⟩, ⟨rP m.out⟩, ⟨by (with_reducible repeat (first | apply zN | apply zO | apply zL)); exact r.out⟩, ⟨bP a.out⟩, ⟨bP d.out⟩, ⟨bP j.out⟩, ⟨bW⟩⟩
   subst aV
   rw [if_pos rfl] at H
   obtain ⟨af, cr, H⟩ := bA H
   have H' := mA H
   clear H
   have aq : 0 ≤ (K : Int) := ofD
   have ar : K < (T.length : Int) := ofD
   obtain ⟨av, aQ, aw⟩ := zP (zF W.out).2.2 K aq ar
   (try rw [← au.out] at aw)
   cases aQ
   replace aq := eq_true aq
   replace ar := eq_true ar
   have cB := ao.out
   have cC := U.out
   have cD := aC.out
   have cE := ab.out
   have bv : wr.cell? ⟨b, 0, none⟩ = some (.int .i64 L) := bc j 0
   have bw : wr.cell? ⟨b, 1, none⟩ = some (.int .i64 P) := bc j 1
   have bx : wr.cell? ⟨b, 2, none⟩ = some (.slice z s.length x) := bc j 2
   have bz : wr.cell? ⟨b, 3, none⟩ = some (.slice aa G.length Z) := bc j 3
   have bB := Zaa j.out 0
   have bC := Zaa j.out 1
   have bD := Zaa j.out 2
   have bE := Zaa j.out 3
   go_wp2_with (first | ((with_reducible refine Zal (f := 51) rfl ?_); refine Zbc (some 34) Tryd.func51 #[.agg #[.int .i64 L, .int .i64 P, .slice z s.length x, .slice aa G.length Z], .int .i64 K] ?_; (with_reducible refine (Zaf.calls k1 L P _ _ s _ _ G K af _ ?side1 ?side2 ?side3 ?side4 cr.out).mono ?_); (case side1 => exact cP ((zF m.out).2.2)); (case side2 => exact (zF m.out).2.1); (case side3 => exact cP ((xH r.out).2.2)); (case side4 => exact (xH r.out).2.1); rintro e de ⟨cX, rfl, ag, hb⟩; refine ⟨_, rfl, ?_⟩; replace v := mA (xD (by (with_reducible repeat (first | apply zN | apply zO | apply zL)); exact v.out) (zY ag) hb); replace r := mA (xD (by (with_reducible repeat (first | apply zN | apply zO | apply zL)); exact r.out) (zY ag) hb); have aW := mA (zQ (yM (yM (Kd.R_newM (M := fun k_ => (w.heap.size ≤ k_)) ag (Zao (bW)) (fun k_ h_ => h_)) (yF (rP W.out))) (yF (rP m.out))) (Zao (bW))); replace W := mA (yL (rP W.out) (zY ag) hb); replace m := mA (yL (rP m.out) (zY ag) hb); replace a := mA (blkB a.out hb); replace d := mA (blkB d.out hb); replace j := mA (blkB j.out hb); replace HB := mA (Zac (bW) hb); (try clear hb); (try clear hb2); (try clear hk); (try clear hi); (try clear ag); obtain ⟨aH, aI, b3⟩ := zH aW.out; subst b3))
   go_loopg [36] k1 (fun kq v36 w' => ∃ (J : Int), v36 = .int .i64 J ∧ Zab (Za2.l1 kq K T (T.length : Int) K af (af.length : Int) J O A L P s G = some (r1, r2, r3)) ∧ Zab (kq ≤ k1) ∧ Zab (Kd.R Kd.bool 4 w' w.heap.size (fun k_ => (w.heap.size ≤ k_) ∧ some k_ ≠ ((.slice aH af.length aI) : Value).ownBlock ∧ some k_ ≠ ((.slice z s.length x) : Value).ownBlock) (.slice (some av) T.length ap) T) ∧ Zab (Kd.R Kd.bool 4 w' w.heap.size (fun k_ => (w.heap.size ≤ k_) ∧ some k_ ≠ ((.slice (some av) T.length ap) : Value).ownBlock ∧ some k_ ≠ ((.slice z s.length x) : Value).ownBlock) (.slice aH af.length aI) af) ∧ Zab (Kd.V (Kd.slice 2 (Kd.int .i64)) 22 w' w.heap.size (fun k_ => (y k_ ∨ w.heap.size ≤ k_) ∧ some k_ ≠ ((.slice (some av) T.length ap) : Value).ownBlock ∧ some k_ ≠ ((.slice aH af.length aI) : Value).ownBlock ∧ some k_ ≠ ((.slice z s.length x) : Value).ownBlock ∧ k_ ≠ i ∧ k_ ≠ q ∧ k_ ≠ b) (.slice X u.length Y) u) ∧ Zab (Kd.R Kd.bool 4 w' w.heap.size (fun k_ => (w.heap.size ≤ k_) ∧ some k_ ≠ ((.slice (some av) T.length ap) : Value).ownBlock ∧ some k_ ≠ ((.slice aH af.length aI) : Value).ownBlock) (.slice z s.length x) s) ∧ Zab (Kd.V (Kd.slice 2 (Kd.int .i64)) 22 w' w.heap.size (fun k_ => (y k_ ∨ w.heap.size ≤ k_) ∧ some k_ ≠ ((.slice (some av) T.length ap) : Value).ownBlock ∧ some k_ ≠ ((.slice aH af.length aI) : Value).ownBlock ∧ some k_ ≠ ((.slice z s.length x) : Value).ownBlock ∧ k_ ≠ i ∧ k_ ≠ q ∧ k_ ≠ b) (.slice aa G.length Z) G) ∧ Zab (w'.heap[i]? = some (.cells #[.int .i64 O, (.slice ad A.length ae)] 32 (0, 0))) ∧ Zab (w'.heap[q]? = some (.cells #[.int .i64 B, .int .i64 D, .int .i64 E, (.slice X u.length Y)] 34 (0, 0))) ∧ Zab (w'.heap[b]? = some (.cells #[.int .i64 L, .int .i64 P, (.slice z s.length x), (.slice aa G.length Z)] 66 (0, 0))) ∧ Zab (Below w.heap.size w w'))
   case atStart => exact ⟨(0), (eW), H', ⟨Nat.le_refl _⟩, ⟨by (with_reducible repeat (first | apply zE | apply zD | apply zB)); exact zA W.out (fun _ hk => ⟨hk.1.1, ⟨hk.2, hk.1.2⟩⟩)⟩, ⟨by (with_reducible repeat (first | apply zE | apply zD | apply zB)); exact zA aW.out (fun _ hk => ⟨hk.1.1.1, ⟨hk.1.2, hk.2⟩⟩)⟩, ⟨by (with_reducible repeat (first | apply zN | apply zO | apply zL)); exact zU v.out (fun _ hk => ⟨hk.1.1, ⟨hk.1.2.1, ⟨hk.2, ⟨hk.1.2.2.1, ⟨hk.1.2.2.2.1, ⟨hk.1.2.2.2.2.1, hk.1.2.2.2.2.2⟩⟩⟩⟩⟩⟩)⟩, ⟨by (with_reducible repeat (first | apply zE | apply zD | apply zB)); exact zA m.out (fun _ hk => ⟨hk.1.1, ⟨hk.1.2, hk.2⟩⟩)⟩, ⟨by (with_reducible repeat (first | apply zN | apply zO | apply zL)); exact zU r.out (fun _ hk => ⟨hk.1.1, ⟨hk.1.2.1, ⟨hk.2, ⟨hk.1.2.2.1, ⟨hk.1.2.2.2.1, ⟨hk.1.2.2.2.2.1, hk.1.2.2.2.2.2⟩⟩⟩⟩⟩⟩)⟩, ⟨bP a.out⟩, ⟨bP d.out⟩, ⟨bP j.out⟩, ⟨bW⟩⟩
   case round =>
    clear H' aU bM bN bv bw bx bz bB bC bD bE aw aq ar
    obtain ⟨J, rfl, HA, aL, W, ak, v, m, r, a, d, j, HB⟩ := hrel
    cases gk with
    | zero => exact absurd HA.out (by simp [Za2.l1])
    | succ k2 =>
     have H := HA.out
     clear HA
     simp only [Za2.l1] at H
     by_cases aM : J < (af.length : Int); rotate_left
     ·rw [if_neg aM] at H
      have bO := dF aM
      clear aM
      have H' := mA H
      clear H
      go_wp2
      go_roundg k2
      case measure => have := aD.out; have := aL.out; omega
      case rel => exact ⟨(wrap64 (K + 1)), (eW), H', ⟨by have := aD.out; have := aL.out; omega⟩, ⟨by (with_reducible repeat (first | apply zE | apply zD | apply zB)); exact zA W.out (fun _ hk => ⟨hk.1, hk.2.2⟩)⟩, ⟨by (with_reducible repeat (first | apply zN | apply zO | apply zL)); exact zU v.out (fun _ hk => ⟨hk.1, ⟨hk.2.1, ⟨hk.2.2.2.1, ⟨hk.2.2.2.2.1, ⟨hk.2.2.2.2.2.1, hk.2.2.2.2.2.2⟩⟩⟩⟩⟩)⟩, ⟨by (with_reducible repeat (first | apply zE | apply zD | apply zB)); exact zA m.out (fun _ hk => ⟨hk.1, hk.2.1⟩)⟩, ⟨by (with_reducible repeat (first | apply zN | apply zO | apply zL)); exact zU r.out (fun _ hk => ⟨hk.1, ⟨hk.2.1, ⟨hk.2.2.2.1, ⟨hk.2.2.2.2.1, ⟨hk.2.2.2.2.2.1, hk.2.2.2.2.2.2⟩⟩⟩⟩⟩)⟩, ⟨bP a.out⟩, ⟨bP d.out⟩, ⟨bP j.out⟩, ⟨bW⟩⟩
     rw [if_pos aM] at H
     have bO := dT aM
     clear aM
     obtain ⟨cF, H⟩ := gE H
     obtain ⟨cG, H⟩ := gE H
     obtain ⟨b4, aG⟩ := nm (rdOf false af J)
     rw [← aG.out] at H
     by_cases aX : b4 = true; rotate_left
     ·replace aX := Bool.eq_false_iff.mpr aX
      subst aX
      rw [iF] at H
      have H' := mA H
      clear H
      have al : 0 ≤ (J : Int) := ofD
      have am : J < (af.length : Int) := ofD
      obtain ⟨aY, aJ, ac⟩ := zP (zF ak.out).2.2 J al am
      (try rw [← au.out] at ac)
      (try rw [← aG.out] at ac)
      cases aJ
      replace al := eq_true al
      replace am := eq_true am
      go_wp2
      go_roundg k2
      case measure => have := aD.out; have := aL.out; omega
      case rel => exact ⟨(wrap64 (J + 1)), (eW), H', ⟨by have := aD.out; have := aL.out; omega⟩, ⟨rP W.out⟩, ⟨rP ak.out⟩, ⟨by (with_reducible repeat (first | apply zN | apply zO | apply zL)); exact v.out⟩, ⟨rP m.out⟩, ⟨by (with_reducible repeat (first | apply zN | apply zO | apply zL)); exact r.out⟩, ⟨bP a.out⟩, ⟨bP d.out⟩, ⟨bP j.out⟩, ⟨bW⟩⟩
     subst aX
     rw [if_pos rfl] at H
     obtain ⟨b5, bR, H⟩ := bA H
     by_cases aZ : b5 = true; rotate_left
     ·replace aZ := Bool.eq_false_iff.mpr aZ
      subst aZ
      rw [iF] at H
      simp only [Option.some.injEq, Prod.mk.injEq] at H
      obtain ⟨rfl, rfl, rfl⟩ := H
      have al : 0 ≤ (J : Int) := ofD
      have am : J < (af.length : Int) := ofD
      obtain ⟨aY, aJ, ac⟩ := zP (zF ak.out).2.2 J al am
      (try rw [← au.out] at ac)
      (try rw [← aG.out] at ac)
      cases aJ
      replace al := eq_true al
      replace am := eq_true am
      have cH := ah.out
      have cI := ai.out
      have cJ := U.out
      have cK := ao.out
      have ci : wr.cell? ⟨i, 0, none⟩ = some (.int .i64 O) := bc a 0
      have cj : wr.cell? ⟨i, 1, none⟩ = some (.slice ad A.length ae) := bc a 1
      have ck := Zaa a.out 0
      have cl := Zaa a.out 1
      go_wp2_with (first | (go_at_call 52; (with_reducible refine (Zaz.calls k2 O _ _ A J false _ ?side1 ?side2 bR.out (tabW HTab.out)).mono ?_); (case side1 => exact cP (zC aE.out HB.out)); (case side2 => exact aF.out); rintro e df ⟨rfl, hb⟩; replace W := mA (zG (rP W.out) hb); replace ak := mA (zG (rP ak.out) hb); replace v := mA (yJ (by (with_reducible repeat (first | apply zN | apply zO | apply zL)); exact v.out) hb); replace m := mA (zG (rP m.out) hb); replace r := mA (yJ (by (with_reducible repeat (first | apply zN | apply zO | apply zL)); exact r.out) hb); replace a := mA (blkB a.out hb); replace d := mA (blkB d.out hb); replace j := mA (blkB j.out hb); replace HB := mA (Zac (bW) hb); (try clear hb); (try clear hb2); (try clear hk); (try clear hi)))
      go_ret3
      exact ⟨eW, bW⟩
     subst aZ
     rw [if_pos rfl] at H
     have H' := mA H
     clear H
     have al : 0 ≤ (J : Int) := ofD
     have am : J < (af.length : Int) := ofD
     obtain ⟨aY, aJ, ac⟩ := zP (zF ak.out).2.2 J al am
     (try rw [← au.out] at ac)
     (try rw [← aG.out] at ac)
     cases aJ
     replace al := eq_true al
     replace am := eq_true am
     have cL := ah.out
     have cM := ai.out
     have cN := U.out
     have cO := ao.out
     have cm : wr.cell? ⟨i, 0, none⟩ = some (.int .i64 O) := bc a 0
     have cn : wr.cell? ⟨i, 1, none⟩ = some (.slice ad A.length ae) := bc a 1
     have co := Zaa a.out 0
     have cp := Zaa a.out 1
     go_wp2_with (first | (go_at_call 52; (with_reducible refine (Zaz.calls k2 O _ _ A J true _ ?side1 ?side2 bR.out (tabW HTab.out)).mono ?_); (case side1 => exact cP (zC aE.out HB.out)); (case side2 => exact aF.out); rintro e dg ⟨rfl, hb⟩; replace W := mA (zG (rP W.out) hb); replace ak := mA (zG (rP ak.out) hb); replace v := mA (yJ (by (with_reducible repeat (first | apply zN | apply zO | apply zL)); exact v.out) hb); replace m := mA (zG (rP m.out) hb); replace r := mA (yJ (by (with_reducible repeat (first | apply zN | apply zO | apply zL)); exact r.out) hb); replace a := mA (blkB a.out hb); replace d := mA (blkB d.out hb); replace j := mA (blkB j.out hb); replace HB := mA (Zac (bW) hb); (try clear hb); (try clear hb2); (try clear hk); (try clear hi)))
     go_roundg k2
     case measure => have := aD.out; have := aL.out; omega
     case rel => exact ⟨(wrap64 (J + 1)), (eW), H', ⟨by have := aD.out; have := aL.out; omega⟩, ⟨rP W.out⟩, ⟨rP ak.out⟩, ⟨by (with_reducible repeat (first | apply zN | apply zO | apply zL)); exact v.out⟩, ⟨rP m.out⟩, ⟨by (with_reducible repeat (first | apply zN | apply zO | apply zL)); exact r.out⟩, ⟨bP a.out⟩, ⟨bP d.out⟩, ⟨bP j.out⟩, ⟨bW⟩⟩
end Go.Proofs.YtlmicipfikammaaDoor.P
end
