import Derived.Test.YtlmicipfikammaaDoorCFnExactLoopFault2
section
namespace Go.Proofs.YtlmicipfikammaaDoor.P
open Go.RowKit Go.Proofs.YtlmicipfikammaaDoor.Sh Go.Proofs.YtlmicipfikammaaDoorW.PrintWords Go.Proofs.YtlmicipfikammaaDoorW.PrintLast Go.Proofs.YtlmicipfikammaaDoorW.PrintMore
open Kd
attribute [local go_sem] Zb8 Zcb Zcm Zcl Zb4 Zb3 Zb7 Zcd   -- for this text's walks alone
set_option linter.unusedVariables false
set_option linter.unusedSimpArgs false
mutual
def Zaw.l0 : Nat → Int → List Bool → List Bool → List Int → Int → Int → Int → Int → List (List Int) → Option (List Bool)
 | 0, _, _, _, _, _, _, _, _, _ => none
 | k + 1, x1, x5, x6, x7, x8, a, b, c, d => if x8 < (x7.length : Int) then (if 0 ≤ x8 then (Zaw.l1 k x1 x5 x6 x7 x8 (wrap64 (Int.tdiv (rd x7 x8) 256)) (Int.tmod (rd x7 x8) 256) 0 a b c d) else (none)) else (some x5)
def Zaw.l1 : Nat → Int → List Bool → List Bool → List Int → Int → Int → Int → Int → Int → Int → Int → List (List Int) → Option (List Bool)
 | 0, _, _, _, _, _, _, _, _, _, _, _, _ => none
 | k + 1, x1, x5, x6, x7, x8, x9, c, b, d, g, h, a => if b < d then (if 0 ≤ x9 then (if x9 < (a.length : Int) then (if 0 ≤ b then (if b < ((Zae a x9).length : Int) then (if (rd (Zae a x9) b) < 0 then (Zaw.l1 k x1 x5 x6 x7 x8 x9 c (wrap64 (b + 1)) d g h a) else ((Zba.f b).bind fun e => (if (rd (Zae a x9) b) = x1 then (if 0 ≤ (Go.bits .or .i64 c e) then (if (Go.bits .or .i64 c e) < (x5.length : Int) then ((some (x5.set ((Go.bits .or .i64 c e) : Int).toNat true : List Bool)).bind fun i => (if 0 ≤ (wrap64 ((wrap64 ((rd (Zae a x9) b) * 256)) + (Go.bits .or .i64 c e))) then (if (wrap64 ((wrap64 ((rd (Zae a x9) b) * 256)) + (Go.bits .or .i64 c e))) < (x6.length : Int) then (if (rdOf false x6 (wrap64 ((wrap64 ((rd (Zae a x9) b) * 256)) + (Go.bits .or .i64 c e))) = true) then (Zaw.l1 k x1 i x6 x7 x8 x9 c (wrap64 (b + 1)) d g h a) else (if x7.length < 17592186044416 then (Zaw.l1 k x1 i (x6.set ((wrap64 ((wrap64 ((rd (Zae a x9) b) * 256)) + (Go.bits .or .i64 c e))) : Int).toNat true) (x7 ++ [wrap64 ((wrap64 ((rd (Zae a x9) b) * 256)) + (Go.bits .or .i64 c e))]) x8 x9 c (wrap64 (b + 1)) d g h a) else (none))) else (none)) else (none))) else (none)) else (none)) else (if 0 ≤ (wrap64 ((wrap64 ((rd (Zae a x9) b) * 256)) + (Go.bits .or .i64 c e))) then (if (wrap64 ((wrap64 ((rd (Zae a x9) b) * 256)) + (Go.bits .or .i64 c e))) < (x6.length : Int) then (if (rdOf false x6 (wrap64 ((wrap64 ((rd (Zae a x9) b) * 256)) + (Go.bits .or .i64 c e))) = true) then (Zaw.l1 k x1 x5 x6 x7 x8 x9 c (wrap64 (b + 1)) d g h a) else (if x7.length < 17592186044416 then (Zaw.l1 k x1 x5 (x6.set ((wrap64 ((wrap64 ((rd (Zae a x9) b) * 256)) + (Go.bits .or .i64 c e))) : Int).toNat true) (x7 ++ [wrap64 ((wrap64 ((rd (Zae a x9) b) * 256)) + (Go.bits .or .i64 c e))]) x8 x9 c (wrap64 (b + 1)) d g h a) else (none))) else (none)) else (none))))) else (none)) else (none)) else (none)) else (none)) else (Zaw.l0 k x1 x5 x6 x7 (wrap64 (x8 + 1)) d g h a)
end
def Zaw.f (k : Nat) (a : Int) (b : Int) (c : Int) (d : List (List Int)) (a1 : Int) : Option (List Bool) := if 256 ≤ 281474976710656 then (if 4096 ≤ 281474976710656 then (Zaw.l0 k a1 (List.replicate 256 false) (List.replicate 4096 false) (([wrap64 (a1 * 256)] : List Int)) 0 a b c d) else (none)) else (none)
set_option maxHeartbeats 8000000 in
set_option maxRecDepth 100000 in
theorem Zaw.calls (k : Nat) (B : Int) (D : Int) (E : Int) (aD : Option Addr) (O : Nat) (l : List (List Int)) (a1 : Int) (r : List Bool) (w : World) (cj : Kd.C (Kd.slice 2 (Kd.int .i64)) w aD l.length l) (ck : l.length ≤ O) (h : Zaw.f k B D E l a1 = some r) :
  Calls Tryd.prog 48 #[.agg #[.int .i64 B, .int .i64 D, .int .i64 E, .slice aD l.length O], .int .i64 a1] w fun e w' => ∃ cT : Value, e = .returned (cT) ∧ Kd.R Kd.bool 4 w' w.heap.size (fun _ => True) cT r ∧ Below w.heap.size w w' := by
 have em := Tryd.underlying34
 have bp := mA cj
 have eb := mA ck
 clear cj ck
 have HB := mA (Below.refl w.heap.size w)
 unfold Zaw.f at h
 have H := h
 clear h
 by_cases c3 : 256 ≤ 281474976710656; rotate_left
 ·rw [if_neg c3] at H
  exact absurd H (by simp)
 rw [if_pos c3] at H
 have cX := eq_true c3
 have cY := dT c3
 clear c3
 obtain ⟨cZ, aV⟩ := nm ((List.replicate 256 false) : List Bool)
 rw [← aV.out] at H
 by_cases c4 : 4096 ≤ 281474976710656; rotate_left
 ·rw [if_neg c4] at H
  exact absurd H (by simp)
 rw [if_pos c4] at H
 have c0 := eq_true c4
 have c1 := dT c4
 clear c4
 obtain ⟨da, aW⟩ := nm ((List.replicate 4096 false) : List Bool)
 rw [← aW.out] at H
 obtain ⟨db, aX⟩ := nm ((([wrap64 (a1 * 256)] : List Int)) : List Int)
 rw [← aX.out] at H
 have H' := mA H
 clear H
 go_enter Tryd.func48, Tryd.ntmps48
 go_wp2_with (first | ((with_reducible refine Zan (N := 2) rfl ?_); refine boxS (N := 2) (cs := #[.int .i64 B, .int .i64 D, .int .i64 E, .slice aD l.length O]) (t := 34) ?_; intro s hg w5 hbox hb; have a := mA (hbox); have cl := geW (w := w) hg; have cm := geW (w := w) hg; replace HB := mA (Zac (bW) hb); clear hb hbox hg) | ((with_reducible refine Zan (N := 14) rfl ?_); refine yT Kd.bool _ 4 rfl (N := 14) rfl 59 _ _ rfl 256 rfl rfl Tryd.underlying59 (.bool false) 1 info4 rfl (by decide) (by omega) false (ok := fun _ => True) (okp := fun _ => True) rfl (fun _ hk => hk) trivial (by omega) (by omega) (Below.refl _ _) (Nat.le_refl _) ?_; intro aY w6 aH hb hg_ hnew_; clear hg_ hnew_; (first | rw [← aV.out] at aH | (simp only [Int.reduceToNat] at aH; rw [← aV.out] at aH)); have ae := mA (zQ aH (Zao (bW))); replace a := mA (blkB a.out hb); replace HB := mA (Zac (bW) hb); clear hb aH) | ((with_reducible refine Zan (N := 15) rfl ?_); refine yT Kd.bool _ 4 rfl (N := 15) rfl 59 _ _ rfl 4096 rfl rfl Tryd.underlying59 (.bool false) 1 info4 rfl (by decide) (by omega) false (ok := fun _ => True) (okp := fun _ => True) rfl (fun _ hk => hk) trivial (by omega) (by omega) (Below.refl _ _) (Nat.le_refl _) ?_; intro aI w8 av hb hg_ hnew_; clear hg_ hnew_; (first | rw [← aW.out] at av | (simp only [Int.reduceToNat] at av; rw [← aW.out] at av)); have aJ := mA (zQ (yM av (yF (rP ae.out))) (Zao (bW))); replace ae := mA (yL (rP ae.out) (zY av) hb); replace a := mA (blkB a.out hb); replace HB := mA (Zac (bW) hb); clear hb av) | ((with_reducible refine Zan (N := 18) rfl ?_); refine yS (Kd.int .i64) _ 2 ?hg (N := 18) ?hd (xs := ([wrap64 (a1 * 256)] : List Int)) (inner := [.int .i64 (wrap64 (a1 * 256))]) (ok := fun _ => True) (okp := fun _ => True) ?hr ?hp (fun _ hk => hk) trivial (Below.refl _ _) (Nat.le_refl _) (by simp) ?_; (case hd => rfl); (case hg => rfl); (case hr => first | (go_simp; done) | (go_simp; rfl)); (case hp => exact (Reps.one (show Kd.M (Kd.int .i64) _ _ _ (wrap64 (a1 * 256)) [.int .i64 (wrap64 (a1 * 256))] from rfl) (Reps.none _ _))); intro cw cU al hb hg_ hnew_; clear hg_ hnew_; (first | rw [← aX.out] at al | (simp only [Int.reduceToNat] at al; rw [← aX.out] at al)); replace ae := mA (zG (rP ae.out) hb); replace aJ := mA (zG (rP aJ.out) hb); have b1 := mA (zQ al (Zao (bW))); replace a := mA (blkB a.out hb); replace HB := mA (Zac (bW) hb); clear hb al))
 repeat (go_quiet (first | ((with_reducible refine Zan (N := 2) rfl ?_); refine boxS (N := 2) (cs := #[.int .i64 B, .int .i64 D, .int .i64 E, .slice aD l.length O]) (t := 34) ?_; intro s hg w5 hbox hb; have a := mA (hbox); have cl := geW (w := w) hg; have cm := geW (w := w) hg; replace HB := mA (Zac (bW) hb); clear hb hbox hg) | ((with_reducible refine Zan (N := 14) rfl ?_); refine yT Kd.bool _ 4 rfl (N := 14) rfl 59 _ _ rfl 256 rfl rfl Tryd.underlying59 (.bool false) 1 info4 rfl (by decide) (by omega) false (ok := fun _ => True) (okp := fun _ => True) rfl (fun _ hk => hk) trivial (by omega) (by omega) (Below.refl _ _) (Nat.le_refl _) ?_; intro aY w6 aH hb hg_ hnew_; clear hg_ hnew_; (first | rw [← aV.out] at aH | (simp only [Int.reduceToNat] at aH; rw [← aV.out] at aH)); have ae := mA (zQ aH (Zao (bW))); replace a := mA (blkB a.out hb); replace HB := mA (Zac (bW) hb); clear hb aH) | ((with_reducible refine Zan (N := 15) rfl ?_); refine yT Kd.bool _ 4 rfl (N := 15) rfl 59 _ _ rfl 4096 rfl rfl Tryd.underlying59 (.bool false) 1 info4 rfl (by decide) (by omega) false (ok := fun _ => True) (okp := fun _ => True) rfl (fun _ hk => hk) trivial (by omega) (by omega) (Below.refl _ _) (Nat.le_refl _) ?_; intro aI w8 av hb hg_ hnew_; clear hg_ hnew_; (first | rw [← aW.out] at av | (simp only [Int.reduceToNat] at av; rw [← aW.out] at av)); have aJ := mA (zQ (yM av (yF (rP ae.out))) (Zao (bW))); replace ae := mA (yL (rP ae.out) (zY av) hb); replace a := mA (blkB a.out hb); replace HB := mA (Zac (bW) hb); clear hb av) | ((with_reducible refine Zan (N := 18) rfl ?_); refine yS (Kd.int .i64) _ 2 ?hg (N := 18) ?hd (xs := ([wrap64 (a1 * 256)] : List Int)) (inner := [.int .i64 (wrap64 (a1 * 256))]) (ok := fun _ => True) (okp := fun _ => True) ?hr ?hp (fun _ hk => hk) trivial (Below.refl _ _) (Nat.le_refl _) (by simp) ?_; (case hd => rfl); (case hg => rfl); (case hr => first | (go_simp; done) | (go_simp; rfl)); (case hp => exact (Reps.one (show Kd.M (Kd.int .i64) _ _ _ (wrap64 (a1 * 256)) [.int .i64 (wrap64 (a1 * 256))] from rfl) (Reps.none _ _))); intro cw cU al hb hg_ hnew_; clear hg_ hnew_; (first | rw [← aX.out] at al | (simp only [Int.reduceToNat] at al; rw [← aX.out] at al)); replace ae := mA (zG (rP ae.out) hb); replace aJ := mA (zG (rP aJ.out) hb); have b1 := mA (zQ al (Zao (bW))); replace a := mA (blkB a.out hb); replace HB := mA (Zac (bW) hb); clear hb al)); try go_wp2_with (first | ((with_reducible refine Zan (N := 2) rfl ?_); refine boxS (N := 2) (cs := #[.int .i64 B, .int .i64 D, .int .i64 E, .slice aD l.length O]) (t := 34) ?_; intro s hg w5 hbox hb; have a := mA (hbox); have cl := geW (w := w) hg; have cm := geW (w := w) hg; replace HB := mA (Zac (bW) hb); clear hb hbox hg) | ((with_reducible refine Zan (N := 14) rfl ?_); refine yT Kd.bool _ 4 rfl (N := 14) rfl 59 _ _ rfl 256 rfl rfl Tryd.underlying59 (.bool false) 1 info4 rfl (by decide) (by omega) false (ok := fun _ => True) (okp := fun _ => True) rfl (fun _ hk => hk) trivial (by omega) (by omega) (Below.refl _ _) (Nat.le_refl _) ?_; intro aY w6 aH hb hg_ hnew_; clear hg_ hnew_; (first | rw [← aV.out] at aH | (simp only [Int.reduceToNat] at aH; rw [← aV.out] at aH)); have ae := mA (zQ aH (Zao (bW))); replace a := mA (blkB a.out hb); replace HB := mA (Zac (bW) hb); clear hb aH) | ((with_reducible refine Zan (N := 15) rfl ?_); refine yT Kd.bool _ 4 rfl (N := 15) rfl 59 _ _ rfl 4096 rfl rfl Tryd.underlying59 (.bool false) 1 info4 rfl (by decide) (by omega) false (ok := fun _ => True) (okp := fun _ => True) rfl (fun _ hk => hk) trivial (by omega) (by omega) (Below.refl _ _) (Nat.le_refl _) ?_; intro aI w8 av hb hg_ hnew_; clear hg_ hnew_; (first | rw [← aW.out] at av | (simp only [Int.reduceToNat] at av; rw [← aW.out] at av)); have aJ := mA (zQ (yM av (yF (rP ae.out))) (Zao (bW))); replace ae := mA (yL (rP ae.out) (zY av) hb); replace a := mA (blkB a.out hb); replace HB := mA (Zac (bW) hb); clear hb av) | ((with_reducible refine Zan (N := 18) rfl ?_); refine yS (Kd.int .i64) _ 2 ?hg (N := 18) ?hd (xs := ([wrap64 (a1 * 256)] : List Int)) (inner := [.int .i64 (wrap64 (a1 * 256))]) (ok := fun _ => True) (okp := fun _ => True) ?hr ?hp (fun _ hk => hk) trivial (Below.refl _ _) (Nat.le_refl _) (by simp) ?_; (case hd => rfl); (case hg => rfl); (case hr => first | (go_simp; done) | (go_simp; rfl)); (case hp => exact (Reps.one (show Kd.M (Kd.int .i64) _ _ _ (wrap64 (a1 * 256)) [.int .i64 (wrap64 (a1 * 256))] from rfl) (Reps.none _ _))); intro cw cU al hb hg_ hnew_; clear hg_ hnew_; (first | rw [← aX.out] at al | (simp only [Int.reduceToNat] at al; rw [← aX.out] at al)); replace ae := mA (zG (rP ae.out) hb); replace aJ := mA (zG (rP aJ.out) hb); have b1 := mA (zQ al (Zao (bW))); replace a := mA (blkB a.out hb); replace HB := mA (Zac (bW) hb); clear hb al)))
 go_loopg [7, 8] k (fun kq v7 v8 w' => ∃ (b2 : List Bool) (b3 : List Bool) (G : List Int) (z : Int), v8 = .int .i64 z ∧ Zab (Zaw.l0 kq a1 b2 b3 G z B D E l = some r) ∧ Zab (kq ≤ k) ∧ Zab (Kd.R Kd.bool 4 w' w.heap.size (fun k_ => some k_ ≠ (aI : Value).ownBlock) aY b2) ∧ Zab (Kd.R Kd.bool 4 w' w.heap.size (fun k_ => some k_ ≠ (aY : Value).ownBlock) aI b3) ∧ Zab (Kd.R (Kd.int .i64) 2 w' w.heap.size (fun _ => True) v7 G) ∧ Zab (w'.heap[s]? = some (.cells #[.int .i64 B, .int .i64 D, .int .i64 E, (.slice aD l.length O)] 34 (0, 0))) ∧ Zab (Below w.heap.size w w'))
 case atStart => exact ⟨(cZ), (da), (db), (0), (eW), H', ⟨Nat.le_refl _⟩, ⟨by (with_reducible repeat (first | apply zE | apply zD | apply zB)); exact zA ae.out (fun _ hk => hk.2)⟩, ⟨by (with_reducible repeat (first | apply zE | apply zD | apply zB)); exact zA aJ.out (fun _ hk => hk.2)⟩, ⟨rP b1.out⟩, ⟨bP a.out⟩, ⟨bW⟩⟩
 case round =>
  clear H' cX cY c0 c1
  obtain ⟨b2, b3, G, z, rfl, HA, a4, d, c, j, a, HB⟩ := hrel
  cases gk with
  | zero => exact absurd HA.out (by simp [Zaw.l0])
  | succ k1 =>
   have H := HA.out
   clear HA
   simp only [Zaw.l0] at H
   by_cases bY : z < (G.length : Int); rotate_left
   ·rw [if_neg bY] at H
    have cn := dF bY
    clear bY
    obtain rfl := oI H
    obtain ⟨en, eo, dc⟩ := zH j.out
    subst dc
    go_wp2
    repeat (go_quiet (fail); try go_wp2)
    go_ret
    exact ⟨_, eW, by (with_reducible repeat (first | apply zE | apply zD | apply zB)); exact zA d.out (fun _ hk => trivial), bW⟩
   rw [if_pos bY] at H
   have cn := dT bY
   clear bY
   obtain ⟨cM, H⟩ := gE H
   have H' := mA H
   clear H
   obtain ⟨ep, er, dd⟩ := zH j.out
   subst dd
   have b4 : 0 ≤ (z : Int) := ofD
   have b5 : z < (G.length : Int) := ofD
   obtain ⟨cN, de, cu⟩ := zK (zF j.out).2.2 z b4 b5
   cases de
   replace b4 := eq_true b4
   replace b5 := eq_true b5
   have b6 : 0 ≤ (z : Int) := ofD
   have b7 : z < (G.length : Int) := ofD
   obtain ⟨cO, df, cv⟩ := zK (zF j.out).2.2 z b6 b7
   obtain rfl : cN = cO := (by injection df)
   replace b6 := eq_true b6
   replace b7 := eq_true b7
   go_wp2
   repeat (go_quiet (fail); try go_wp2)
   go_loopg [7, 11] k1 (fun kq v7 v11 w' => ∃ (y : List Bool) (m : List Bool) (L : List Int) (i : Int), v11 = .int .i64 i ∧ Zab (Zaw.l1 kq a1 y m L z (wrap64 (Int.tdiv (rd G z) 256)) (Int.tmod (rd G z) 256) i B D E l = some r) ∧ Zab (kq ≤ k1) ∧ Zab (Kd.R Kd.bool 4 w' w.heap.size (fun k_ => some k_ ≠ (aI : Value).ownBlock) aY y) ∧ Zab (Kd.R Kd.bool 4 w' w.heap.size (fun k_ => some k_ ≠ (aY : Value).ownBlock) aI m) ∧ Zab (Kd.R (Kd.int .i64) 2 w' w.heap.size (fun _ => True) v7 L) ∧ Zab (w'.heap[s]? = some (.cells #[.int .i64 B, .int .i64 D, .int .i64 E, (.slice aD l.length O)] 34 (0, 0))) ∧ Zab (Below w.heap.size w w'))
   case atStart => exact ⟨(b2), (b3), (G), (0), (eW), H', ⟨Nat.le_refl _⟩, ⟨rP d.out⟩, ⟨rP c.out⟩, ⟨rP j.out⟩, ⟨bP a.out⟩, ⟨bW⟩⟩
   case round =>
    clear H' cn cM cu cv b4 b6 b5 b7
    obtain ⟨y, m, L, i, rfl, HA, a5, d, c, j, a, HB⟩ := hrel
    cases gk with
    | zero => exact absurd HA.out (by simp [Zaw.l1])
    | succ k2 =>
     have H := HA.out
     clear HA
     simp only [Zaw.l1] at H
     by_cases bZ : i < B; rotate_left
     ·rw [if_neg bZ] at H
      have cQ := dF bZ
      clear bZ
      have H' := mA H
      clear H
      have dk : wr.cell? ⟨s, 0, none⟩ = some (.int .i64 B) := bc a 0
      have dl : wr.cell? ⟨s, 1, none⟩ = some (.int .i64 D) := bc a 1
      have dm : wr.cell? ⟨s, 2, none⟩ = some (.int .i64 E) := bc a 2
      have dn : wr.cell? ⟨s, 3, none⟩ = some (.slice aD l.length O) := bc a 3
      have dp := Zaa a.out 0
      have dq := Zaa a.out 1
      have dr := Zaa a.out 2
      have ds := Zaa a.out 3
      go_wp2
      repeat (go_quiet (fail); try go_wp2)
      (try subst aK)
      (try subst aM)
      (try subst aE)
      (try subst aG)
      go_roundg k2
      case measure => have := a4.out; have := a5.out; omega
      case rel => exact ⟨(y), (m), (L), (wrap64 (z + 1)), (eW), H', ⟨by have := a4.out; have := a5.out; omega⟩, ⟨rP d.out⟩, ⟨rP c.out⟩, ⟨rP j.out⟩, ⟨bP a.out⟩, ⟨bW⟩⟩
     rw [if_pos bZ] at H
     have cQ := dT bZ
     clear bZ
     obtain ⟨n, aK⟩ : ∃ j_ : Int, (wrap64 (Int.tdiv (rd G z) 256)) = j_ := ⟨_, rfl⟩
     replace H : (if 0 ≤ (n) then (if (n) < (l.length : Int) then (if 0 ≤ i then (if i < ((Zae l (n)).length : Int) then (if (rd (Zae l (n)) i) < 0 then (Zaw.l1 k2 a1 y m L z (n) (Int.tmod (rd G z) 256) (wrap64 (i + 1)) B D E l) else ((Zba.f i).bind fun T => (if (rd (Zae l (n)) i) = a1 then (if 0 ≤ (Go.bits .or .i64 (Int.tmod (rd G z) 256) T) then (if (Go.bits .or .i64 (Int.tmod (rd G z) 256) T) < (y.length : Int) then ((some (y.set ((Go.bits .or .i64 (Int.tmod (rd G z) 256) T) : Int).toNat true : List Bool)).bind fun au => (if 0 ≤ (wrap64 ((wrap64 ((rd (Zae l (n)) i) * 256)) + (Go.bits .or .i64 (Int.tmod (rd G z) 256) T))) then (if (wrap64 ((wrap64 ((rd (Zae l (n)) i) * 256)) + (Go.bits .or .i64 (Int.tmod (rd G z) 256) T))) < (m.length : Int) then (if (rdOf false m (wrap64 ((wrap64 ((rd (Zae l (n)) i) * 256)) + (Go.bits .or .i64 (Int.tmod (rd G z) 256) T))) = true) then (Zaw.l1 k2 a1 au m L z (n) (Int.tmod (rd G z) 256) (wrap64 (i + 1)) B D E l) else (if L.length < 17592186044416 then (Zaw.l1 k2 a1 au (m.set ((wrap64 ((wrap64 ((rd (Zae l (n)) i) * 256)) + (Go.bits .or .i64 (Int.tmod (rd G z) 256) T))) : Int).toNat true) (L ++ [wrap64 ((wrap64 ((rd (Zae l (n)) i) * 256)) + (Go.bits .or .i64 (Int.tmod (rd G z) 256) T))]) z (n) (Int.tmod (rd G z) 256) (wrap64 (i + 1)) B D E l) else (none))) else (none)) else (none))) else (none)) else (none)) else (if 0 ≤ (wrap64 ((wrap64 ((rd (Zae l (n)) i) * 256)) + (Go.bits .or .i64 (Int.tmod (rd G z) 256) T))) then (if (wrap64 ((wrap64 ((rd (Zae l (n)) i) * 256)) + (Go.bits .or .i64 (Int.tmod (rd G z) 256) T))) < (m.length : Int) then (if (rdOf false m (wrap64 ((wrap64 ((rd (Zae l (n)) i) * 256)) + (Go.bits .or .i64 (Int.tmod (rd G z) 256) T))) = true) then (Zaw.l1 k2 a1 y m L z (n) (Int.tmod (rd G z) 256) (wrap64 (i + 1)) B D E l) else (if L.length < 17592186044416 then (Zaw.l1 k2 a1 y (m.set ((wrap64 ((wrap64 ((rd (Zae l (n)) i) * 256)) + (Go.bits .or .i64 (Int.tmod (rd G z) 256) T))) : Int).toNat true) (L ++ [wrap64 ((wrap64 ((rd (Zae l (n)) i) * 256)) + (Go.bits .or .i64 (Int.tmod (rd G z) 256) T))]) z (n) (Int.tmod (rd G z) 256) (wrap64 (i + 1)) B D E l) else (none))) else (none)) else (none))))) else (none)) else (none)) else (none)) else (none)) = some r := by first | (rw [aK] at H; exact H) | (simp only [aK] at H ⊢; exact H)
     have d9 : (IntKind.i64.wrap (Int.tdiv (rd G z) 256)) = n := (Zci _).trans aK
     obtain ⟨ec, H⟩ := gE H
     obtain ⟨ed, H⟩ := gE H
     obtain ⟨ee, H⟩ := gE H
     obtain ⟨ef, H⟩ := gE H
     by_cases b0 : (rd (Zae l (n)) i) < 0
     ·rw [if_pos b0] at H
      have cR := dT b0
      clear b0
      have H' := mA H
      clear H
      have dt : wr.cell? ⟨s, 0, none⟩ = some (.int .i64 B) := bc a 0
      have du : wr.cell? ⟨s, 1, none⟩ = some (.int .i64 D) := bc a 1
      have dv : wr.cell? ⟨s, 2, none⟩ = some (.int .i64 E) := bc a 2
      have dw : wr.cell? ⟨s, 3, none⟩ = some (.slice aD l.length O) := bc a 3
      have dx := Zaa a.out 0
      have dy := Zaa a.out 1
      have dz := Zaa a.out 2
      have dA := Zaa a.out 3
      have ah : 0 ≤ ((n) : Int) := ofD
      have ai : (n) < (l.length : Int) := ofD
      obtain ⟨U, bq, br, aZ, J, W, X⟩ := at_L1 bp.out (n) ah ai
      cases aZ
      replace J := (HB.out.cell (wB w J)).trans J
      have ar := mA X
      have bn := mA W
      clear X W
      replace ah := eq_true ah
      replace ai := eq_true ai
      have aj : 0 ≤ (i : Int) := ofD
      have ak : i < ((Zae l (n)).length : Int) := ofD
      obtain ⟨bF, a0, K⟩ := zK ar.out i aj ak
      cases a0
      replace K := (HB.out.cell (wB w K)).trans K
      replace aj := eq_true aj
      replace ak := eq_true ak
      go_wp2
      repeat (go_quiet (fail); try go_wp2)
      (try subst aK)
      (try subst aM)
      (try subst aE)
      (try subst aG)
      go_roundg k2
      case measure => have := a4.out; have := a5.out; omega
      case rel => exact ⟨(y), (m), (L), (wrap64 (i + 1)), (eW), H', ⟨by have := a4.out; have := a5.out; omega⟩, ⟨rP d.out⟩, ⟨rP c.out⟩, ⟨rP j.out⟩, ⟨bP a.out⟩, ⟨bW⟩⟩
     rw [if_neg b0] at H
     have cR := dF b0
     clear b0
     obtain ⟨T, aN, H⟩ := bA H
     by_cases bK : (rd (Zae l (n)) i) = a1; rotate_left
     ·rw [if_neg bK] at H
      have co : ((rd (Zae l (n)) i) == a1) = false := beq_eq_false_iff_ne.mpr bK
      have cS : ((rd (Zae l (n)) i) != a1) = true := bne_iff_ne.mpr bK
      obtain ⟨u, aG⟩ : ∃ j_ : Int, (wrap64 ((wrap64 ((rd (Zae l (n)) i) * 256)) + (Go.bits .or .i64 (Int.tmod (rd G z) 256) T))) = j_ := ⟨_, rfl⟩
      replace H : (if 0 ≤ (u) then (if (u) < (m.length : Int) then (if (rdOf false m (u) = true) then (Zaw.l1 k2 a1 y m L z (n) (Int.tmod (rd G z) 256) (wrap64 (i + 1)) B D E l) else (if L.length < 17592186044416 then (Zaw.l1 k2 a1 y (m.set ((u) : Int).toNat true) (L ++ [u]) z (n) (Int.tmod (rd G z) 256) (wrap64 (i + 1)) B D E l) else (none))) else (none)) else (none)) = some r := by first | (rw [aG] at H; exact H) | (simp only [aG] at H ⊢; exact H)
      (try rw [aG] at aN)
      have ea : (IntKind.i64.wrap ((wrap64 ((rd (Zae l (n)) i) * 256)) + (Go.bits .or .i64 (Int.tmod (rd G z) 256) T))) = u := (Zci _).trans aG
      obtain ⟨eg, H⟩ := gE H
      obtain ⟨eh, H⟩ := gE H
      obtain ⟨dg, a2⟩ := nm (rdOf false m (u))
      rw [← a2.out] at H
      by_cases cp : (dg = true)
      ·subst cp
       rw [if_pos rfl] at H
       have H' := mA H
       clear H
       have dB : wr.cell? ⟨s, 0, none⟩ = some (.int .i64 B) := bc a 0
       have dC : wr.cell? ⟨s, 1, none⟩ = some (.int .i64 D) := bc a 1
       have dD : wr.cell? ⟨s, 2, none⟩ = some (.int .i64 E) := bc a 2
       have dE : wr.cell? ⟨s, 3, none⟩ = some (.slice aD l.length O) := bc a 3
       have dG := Zaa a.out 0
       have dH := Zaa a.out 1
       have dI := Zaa a.out 2
       have dJ := Zaa a.out 3
       have ah : 0 ≤ ((n) : Int) := ofD
       have ai : (n) < (l.length : Int) := ofD
       obtain ⟨U, bq, br, aZ, J, W, X⟩ := at_L1 bp.out (n) ah ai
       cases aZ
       replace J := (HB.out.cell (wB w J)).trans J
       have ar := mA X
       have bn := mA W
       clear X W
       replace ah := eq_true ah
       replace ai := eq_true ai
       have aj : 0 ≤ (i : Int) := ofD
       have ak : i < ((Zae l (n)).length : Int) := ofD
       obtain ⟨bF, a0, K⟩ := zK ar.out i aj ak
       cases a0
       replace K := (HB.out.cell (wB w K)).trans K
       replace aj := eq_true aj
       replace ak := eq_true ak
       go_wp2_with (first | (go_at_call 37; (with_reducible refine (Zba.calls i T _ aN.out).mono ?_); rintro e w' ⟨rfl, ⟨nd, rfl⟩⟩; (try first | exact dwD | exact dwE); obtain ⟨cx, cy, bL⟩ := zH c.out; subst bL; have aa : 0 ≤ ((u) : Int) := ofD; have ab : (u) < (m.length : Int) := ofD; obtain ⟨bs, aQ, Y⟩ := zP (zF c.out).2.2 (u) aa ab; (try rw [← a2.out] at Y); cases aQ; replace aa := eq_true aa; replace ab := eq_true ab))
       repeat (go_quiet (first | (go_at_call 37; (with_reducible refine (Zba.calls i T _ aN.out).mono ?_); rintro e w' ⟨rfl, ⟨nd, rfl⟩⟩; (try first | exact dwD | exact dwE); obtain ⟨cx, cy, bL⟩ := zH c.out; subst bL; have aa : 0 ≤ ((u) : Int) := ofD; have ab : (u) < (m.length : Int) := ofD; obtain ⟨bs, aQ, Y⟩ := zP (zF c.out).2.2 (u) aa ab; (try rw [← a2.out] at Y); cases aQ; replace aa := eq_true aa; replace ab := eq_true ab)); try go_wp2_with (first | (go_at_call 37; (with_reducible refine (Zba.calls i T _ aN.out).mono ?_); rintro e w' ⟨rfl, ⟨nd, rfl⟩⟩; (try first | exact dwD | exact dwE); obtain ⟨cx, cy, bL⟩ := zH c.out; subst bL; have aa : 0 ≤ ((u) : Int) := ofD; have ab : (u) < (m.length : Int) := ofD; obtain ⟨bs, aQ, Y⟩ := zP (zF c.out).2.2 (u) aa ab; (try rw [← a2.out] at Y); cases aQ; replace aa := eq_true aa; replace ab := eq_true ab)))
       (try subst aK)
       (try subst aM)
       (try subst aE)
       (try subst aG)
       go_roundg k2
       case measure => have := a4.out; have := a5.out; omega
       case rel => exact ⟨(y), (m), (L), (wrap64 (i + 1)), (eW), H', ⟨by have := a4.out; have := a5.out; omega⟩, ⟨rP d.out⟩, ⟨rP c.out⟩, ⟨rP j.out⟩, ⟨bP a.out⟩, ⟨bW⟩⟩
      replace cp := Bool.eq_false_iff.mpr cp
      subst cp
      rw [iF] at H
      obtain ⟨b8, bG⟩ := nm ((m.set ((u) : Int).toNat true) : List Bool)
      rw [← bG.out] at H
      by_cases cq : L.length < 17592186044416; rotate_left
      ·rw [if_neg cq] at H
       exact absurd H (by simp)
      rw [if_pos cq] at H
      have b9 := mA cq
      clear cq
      obtain ⟨dh, bH⟩ := nm ((L ++ [u]) : List Int)
      rw [← bH.out] at H
      have H' := mA H
      clear H
      have dK : wr.cell? ⟨s, 0, none⟩ = some (.int .i64 B) := bc a 0
      have dL : wr.cell? ⟨s, 1, none⟩ = some (.int .i64 D) := bc a 1
      have dM : wr.cell? ⟨s, 2, none⟩ = some (.int .i64 E) := bc a 2
      have dN : wr.cell? ⟨s, 3, none⟩ = some (.slice aD l.length O) := bc a 3
      have dO := Zaa a.out 0
      have dP := Zaa a.out 1
      have dQ := Zaa a.out 2
      have dR := Zaa a.out 3
      have ah : 0 ≤ ((n) : Int) := ofD
      have ai : (n) < (l.length : Int) := ofD
      obtain ⟨U, bq, br, aZ, J, W, X⟩ := at_L1 bp.out (n) ah ai
      cases aZ
      replace J := (HB.out.cell (wB w J)).trans J
      have ar := mA X
      have bn := mA W
      clear X W
      replace ah := eq_true ah
      replace ai := eq_true ai
      have aj : 0 ≤ (i : Int) := ofD
      have ak : i < ((Zae l (n)).length : Int) := ofD
      obtain ⟨bF, a0, K⟩ := zK ar.out i aj ak
      cases a0
      replace K := (HB.out.cell (wB w K)).trans K
      replace aj := eq_true aj
      replace ak := eq_true ak
      go_wp2_with (first | (go_at_call 37; (with_reducible refine (Zba.calls i T _ aN.out).mono ?_); rintro e w' ⟨rfl, ⟨nd, rfl⟩⟩; (try first | exact dwD | exact dwE); obtain ⟨cz, aw, bM⟩ := zH c.out; subst bM; have aa : 0 ≤ ((u) : Int) := ofD; have ab : (u) < (m.length : Int) := ofD; obtain ⟨bs, aQ, Y⟩ := zP (zF c.out).2.2 (u) aa ab; (try rw [← a2.out] at Y); cases aQ; replace aa := eq_true aa; replace ab := eq_true ab; have a6 : 0 ≤ ((u) : Int) := ofD; have a7 : ((u) : Int) < ((m.length : Int) : Int) := ofD; obtain ⟨af, cA, a8, a9, bN, cB, ba⟩ := yC c.out (by omega); (first | cases a8 | (injection a8 with ea_ en_ ec_; (first | subst ea_ | (injection ea_ with ea_; subst ea_)); subst ec_; clear en_)); have bO := mA a9; have cC := mA ba; clear a9 bN ba; (first | simp only [Zb1] at Y | skip); obtain ⟨cf, cg⟩ := zI false c.out ((u) : Int) a6 a7; replace a6 := eq_true a6; replace a7 := eq_true a7; obtain ⟨bu, bv⟩ := zI false c.out ((u) : Int) (ofD) (ofD); have ax := zS c.out ((u) : Int) true) | ((with_reducible refine Zbp (t := 4) (p := 74) rfl ?_); (try (rw [Zct wr]; generalize hq_ : World.drewN wr _ = wr; replace d := mA (zR hq_ d.out); replace c := mA (zR hq_ c.out); replace j := mA (zR hq_ j.out); replace a := mA (blk_at hq_ a.out); replace HB := mA (Zc4 hq_ HB.out); clear hq_; (try (obtain ⟨bu, bv⟩ := zI false c.out ((u) : Int) (ofD) (ofD))); (try (have ax := zS c.out ((u) : Int) true)))); refine storeS (t := 4) (p := 74) (w1 := (wr.setCell ⟨af, ((u) : Int).toNat, none⟩ (.bool true))) ?_; intro bb hw; have hg : wr.grownBy bb (some af) := (by rw [hw]; exact ax.2); have hp_ : Kd.R Kd.bool 4 bb w.heap.size (fun k_ => some k_ ≠ (aY : Value).ownBlock) (.slice (some ⟨af, 0, none⟩) m.length aw) b8 := (by rw [hw, bG.out]; exact ax.1); clear ax; replace d := mA (yA (v := (.slice (some ⟨af, 0, none⟩) m.length aw)) (v1 := (.slice (some ⟨af, 0, none⟩) m.length aw)) (ok := (fun _ => True)) (by (with_reducible repeat (first | apply zE | apply zD | apply zB)); exact zA d.out (fun _ hk => ⟨trivial, hk⟩)) hg (.inl rfl)); replace j := mA (zW (v := (.slice (some ⟨af, 0, none⟩) m.length aw)) (rP j.out) (zV c.out) (by decide) hg); replace a := mA (Zay (g := s) (o := .cells #[.int .i64 B, .int .i64 D, .int .i64 E, .slice (some U) l.length O] 34 (0, 0)) (bP a.out) hg (zM c.out a.out (by decide))); replace c := mA (hp_); replace HB := mA ((by rw [hw]; exact Zbs (HB.out) bO.out : Below w.heap.size w bb)); clear hg hw hp_) | ((with_reducible refine Zch (b := .append) (xs := #[.tmp 75, .tmp 80]) rfl ?_); at_builtin; refine yO (Kd.int .i64) (w0 := w) w.heap.size rfl (.tmp 75) (.tmp 80) 22 2 (.int .i64 0) 8 rfl Tryd.underlying22 info2 rfl (by decide) (by omega) u7 L u [.int .i64 u] (fun _ => True) (fun _ => False) rfl rfl ?aP (fun _ hk => hk.elim) ?aF ?aO ?aB ?aS ?aL ?_; (case aP => exact rfl); (case aB => exact (bW)); (case aF => exact (fun _ _ => trivial)); (case aO => exact (rP j.out)); (case aS => exact (Zao (bW))); (case aL => have := b9.out; omega); intro cD cV ho hb hg hat; rw [← bH.out] at ho; replace d := mA (zW (rP d.out) (zV (rP j.out)) (by decide) hg); replace c := mA (zW (rP c.out) (zV (rP j.out)) (by decide) hg); replace a := mA (Zay (g := s) (o := .cells #[.int .i64 B, .int .i64 D, .int .i64 E, .slice (some U) l.length O] 34 (0, 0)) (bP a.out) hg (zM j.out a.out (by decide))); replace HB := mA (hb); have ca := mA (ho); clear j ho hb hg hat))
      repeat (go_quiet (first | (go_at_call 37; (with_reducible refine (Zba.calls i T _ aN.out).mono ?_); rintro e w' ⟨rfl, ⟨nd, rfl⟩⟩; (try first | exact dwD | exact dwE); obtain ⟨cz, aw, bM⟩ := zH c.out; subst bM; have aa : 0 ≤ ((u) : Int) := ofD; have ab : (u) < (m.length : Int) := ofD; obtain ⟨bs, aQ, Y⟩ := zP (zF c.out).2.2 (u) aa ab; (try rw [← a2.out] at Y); cases aQ; replace aa := eq_true aa; replace ab := eq_true ab; have a6 : 0 ≤ ((u) : Int) := ofD; have a7 : ((u) : Int) < ((m.length : Int) : Int) := ofD; obtain ⟨af, cA, a8, a9, bN, cB, ba⟩ := yC c.out (by omega); (first | cases a8 | (injection a8 with ea_ en_ ec_; (first | subst ea_ | (injection ea_ with ea_; subst ea_)); subst ec_; clear en_)); have bO := mA a9; have cC := mA ba; clear a9 bN ba; (first | simp only [Zb1] at Y | skip); obtain ⟨cf, cg⟩ := zI false c.out ((u) : Int) a6 a7; replace a6 := eq_true a6; replace a7 := eq_true a7; obtain ⟨bu, bv⟩ := zI false c.out ((u) : Int) (ofD) (ofD); have ax := zS c.out ((u) : Int) true) | ((with_reducible refine Zbp (t := 4) (p := 74) rfl ?_); (try (rw [Zct wr]; generalize hq_ : World.drewN wr _ = wr; replace d := mA (zR hq_ d.out); replace c := mA (zR hq_ c.out); replace j := mA (zR hq_ j.out); replace a := mA (blk_at hq_ a.out); replace HB := mA (Zc4 hq_ HB.out); clear hq_; (try (obtain ⟨bu, bv⟩ := zI false c.out ((u) : Int) (ofD) (ofD))); (try (have ax := zS c.out ((u) : Int) true)))); refine storeS (t := 4) (p := 74) (w1 := (wr.setCell ⟨af, ((u) : Int).toNat, none⟩ (.bool true))) ?_; intro bb hw; have hg : wr.grownBy bb (some af) := (by rw [hw]; exact ax.2); have hp_ : Kd.R Kd.bool 4 bb w.heap.size (fun k_ => some k_ ≠ (aY : Value).ownBlock) (.slice (some ⟨af, 0, none⟩) m.length aw) b8 := (by rw [hw, bG.out]; exact ax.1); clear ax; replace d := mA (yA (v := (.slice (some ⟨af, 0, none⟩) m.length aw)) (v1 := (.slice (some ⟨af, 0, none⟩) m.length aw)) (ok := (fun _ => True)) (by (with_reducible repeat (first | apply zE | apply zD | apply zB)); exact zA d.out (fun _ hk => ⟨trivial, hk⟩)) hg (.inl rfl)); replace j := mA (zW (v := (.slice (some ⟨af, 0, none⟩) m.length aw)) (rP j.out) (zV c.out) (by decide) hg); replace a := mA (Zay (g := s) (o := .cells #[.int .i64 B, .int .i64 D, .int .i64 E, .slice (some U) l.length O] 34 (0, 0)) (bP a.out) hg (zM c.out a.out (by decide))); replace c := mA (hp_); replace HB := mA ((by rw [hw]; exact Zbs (HB.out) bO.out : Below w.heap.size w bb)); clear hg hw hp_) | ((with_reducible refine Zch (b := .append) (xs := #[.tmp 75, .tmp 80]) rfl ?_); at_builtin; refine yO (Kd.int .i64) (w0 := w) w.heap.size rfl (.tmp 75) (.tmp 80) 22 2 (.int .i64 0) 8 rfl Tryd.underlying22 info2 rfl (by decide) (by omega) u7 L u [.int .i64 u] (fun _ => True) (fun _ => False) rfl rfl ?aP (fun _ hk => hk.elim) ?aF ?aO ?aB ?aS ?aL ?_; (case aP => exact rfl); (case aB => exact (bW)); (case aF => exact (fun _ _ => trivial)); (case aO => exact (rP j.out)); (case aS => exact (Zao (bW))); (case aL => have := b9.out; omega); intro cD cV ho hb hg hat; rw [← bH.out] at ho; replace d := mA (zW (rP d.out) (zV (rP j.out)) (by decide) hg); replace c := mA (zW (rP c.out) (zV (rP j.out)) (by decide) hg); replace a := mA (Zay (g := s) (o := .cells #[.int .i64 B, .int .i64 D, .int .i64 E, .slice (some U) l.length O] 34 (0, 0)) (bP a.out) hg (zM j.out a.out (by decide))); replace HB := mA (hb); have ca := mA (ho); clear j ho hb hg hat)); try go_wp2_with (first | (go_at_call 37; (with_reducible refine (Zba.calls i T _ aN.out).mono ?_); rintro e w' ⟨rfl, ⟨nd, rfl⟩⟩; (try first | exact dwD | exact dwE); obtain ⟨cz, aw, bM⟩ := zH c.out; subst bM; have aa : 0 ≤ ((u) : Int) := ofD; have ab : (u) < (m.length : Int) := ofD; obtain ⟨bs, aQ, Y⟩ := zP (zF c.out).2.2 (u) aa ab; (try rw [← a2.out] at Y); cases aQ; replace aa := eq_true aa; replace ab := eq_true ab; have a6 : 0 ≤ ((u) : Int) := ofD; have a7 : ((u) : Int) < ((m.length : Int) : Int) := ofD; obtain ⟨af, cA, a8, a9, bN, cB, ba⟩ := yC c.out (by omega); (first | cases a8 | (injection a8 with ea_ en_ ec_; (first | subst ea_ | (injection ea_ with ea_; subst ea_)); subst ec_; clear en_)); have bO := mA a9; have cC := mA ba; clear a9 bN ba; (first | simp only [Zb1] at Y | skip); obtain ⟨cf, cg⟩ := zI false c.out ((u) : Int) a6 a7; replace a6 := eq_true a6; replace a7 := eq_true a7; obtain ⟨bu, bv⟩ := zI false c.out ((u) : Int) (ofD) (ofD); have ax := zS c.out ((u) : Int) true) | ((with_reducible refine Zbp (t := 4) (p := 74) rfl ?_); (try (rw [Zct wr]; generalize hq_ : World.drewN wr _ = wr; replace d := mA (zR hq_ d.out); replace c := mA (zR hq_ c.out); replace j := mA (zR hq_ j.out); replace a := mA (blk_at hq_ a.out); replace HB := mA (Zc4 hq_ HB.out); clear hq_; (try (obtain ⟨bu, bv⟩ := zI false c.out ((u) : Int) (ofD) (ofD))); (try (have ax := zS c.out ((u) : Int) true)))); refine storeS (t := 4) (p := 74) (w1 := (wr.setCell ⟨af, ((u) : Int).toNat, none⟩ (.bool true))) ?_; intro bb hw; have hg : wr.grownBy bb (some af) := (by rw [hw]; exact ax.2); have hp_ : Kd.R Kd.bool 4 bb w.heap.size (fun k_ => some k_ ≠ (aY : Value).ownBlock) (.slice (some ⟨af, 0, none⟩) m.length aw) b8 := (by rw [hw, bG.out]; exact ax.1); clear ax; replace d := mA (yA (v := (.slice (some ⟨af, 0, none⟩) m.length aw)) (v1 := (.slice (some ⟨af, 0, none⟩) m.length aw)) (ok := (fun _ => True)) (by (with_reducible repeat (first | apply zE | apply zD | apply zB)); exact zA d.out (fun _ hk => ⟨trivial, hk⟩)) hg (.inl rfl)); replace j := mA (zW (v := (.slice (some ⟨af, 0, none⟩) m.length aw)) (rP j.out) (zV c.out) (by decide) hg); replace a := mA (Zay (g := s) (o := .cells #[.int .i64 B, .int .i64 D, .int .i64 E, .slice (some U) l.length O] 34 (0, 0)) (bP a.out) hg (zM c.out a.out (by decide))); replace c := mA (hp_); replace HB := mA ((by rw [hw]; exact Zbs (HB.out) bO.out : Below w.heap.size w bb)); clear hg hw hp_) | ((with_reducible refine Zch (b := .append) (xs := #[.tmp 75, .tmp 80]) rfl ?_); at_builtin; refine yO (Kd.int .i64) (w0 := w) w.heap.size rfl (.tmp 75) (.tmp 80) 22 2 (.int .i64 0) 8 rfl Tryd.underlying22 info2 rfl (by decide) (by omega) u7 L u [.int .i64 u] (fun _ => True) (fun _ => False) rfl rfl ?aP (fun _ hk => hk.elim) ?aF ?aO ?aB ?aS ?aL ?_; (case aP => exact rfl); (case aB => exact (bW)); (case aF => exact (fun _ _ => trivial)); (case aO => exact (rP j.out)); (case aS => exact (Zao (bW))); (case aL => have := b9.out; omega); intro cD cV ho hb hg hat; rw [← bH.out] at ho; replace d := mA (zW (rP d.out) (zV (rP j.out)) (by decide) hg); replace c := mA (zW (rP c.out) (zV (rP j.out)) (by decide) hg); replace a := mA (Zay (g := s) (o := .cells #[.int .i64 B, .int .i64 D, .int .i64 E, .slice (some U) l.length O] 34 (0, 0)) (bP a.out) hg (zM j.out a.out (by decide))); replace HB := mA (hb); have ca := mA (ho); clear j ho hb hg hat)))
      (try subst aK)
      (try subst aM)
      (try subst aE)
      (try subst aG)
      go_roundg k2
      case measure => have := a4.out; have := a5.out; omega
      case rel => exact ⟨(y), (b8), (dh), (wrap64 (i + 1)), (eW), H', ⟨by have := a4.out; have := a5.out; omega⟩, ⟨by (with_reducible repeat (first | apply zE | apply zD | apply zB)); exact zA d.out (fun _ hk => hk.2)⟩, ⟨rP c.out⟩, ⟨rP ca.out⟩, ⟨bP a.out⟩, ⟨bW⟩⟩
     rw [if_pos bK] at H
     have co : ((rd (Zae l (n)) i) == a1) = true := beq_iff_eq.mpr bK
     have cS : ((rd (Zae l (n)) i) != a1) = false := bne_eq_false_iff_eq.mpr bK
     clear bK
     obtain ⟨q, aM⟩ : ∃ j_ : Int, (Go.bits .or .i64 (Int.tmod (rd G z) 256) T) = j_ := ⟨_, rfl⟩
     replace H : (if 0 ≤ (q) then (if (q) < (y.length : Int) then ((some (y.set ((q) : Int).toNat true : List Bool)).bind fun au => (if 0 ≤ (wrap64 ((wrap64 ((rd (Zae l (n)) i) * 256)) + (q))) then (if (wrap64 ((wrap64 ((rd (Zae l (n)) i) * 256)) + (q))) < (m.length : Int) then (if (rdOf false m (wrap64 ((wrap64 ((rd (Zae l (n)) i) * 256)) + (q))) = true) then (Zaw.l1 k2 a1 au m L z (n) (Int.tmod (rd G z) 256) (wrap64 (i + 1)) B D E l) else (if L.length < 17592186044416 then (Zaw.l1 k2 a1 au (m.set ((wrap64 ((wrap64 ((rd (Zae l (n)) i) * 256)) + (q))) : Int).toNat true) (L ++ [wrap64 ((wrap64 ((rd (Zae l (n)) i) * 256)) + (q))]) z (n) (Int.tmod (rd G z) 256) (wrap64 (i + 1)) B D E l) else (none))) else (none)) else (none))) else (none)) else (none)) = some r := by first | (rw [aM] at H; exact H) | (simp only [aM] at H ⊢; exact H)
     (try rw [aM] at aN)
     obtain ⟨ei, H⟩ := gE H
     obtain ⟨ej, H⟩ := gE H
     obtain ⟨au, cb⟩ : ∃ y_ : List Bool, y_ = (y.set ((q) : Int).toNat true) := ⟨_, rfl⟩
     replace H := bsm cb H
     have bo := mA cb
     clear cb
     obtain ⟨x, aE⟩ : ∃ j_ : Int, (wrap64 ((wrap64 ((rd (Zae l (n)) i) * 256)) + (q))) = j_ := ⟨_, rfl⟩
     replace H : (if 0 ≤ (x) then (if (x) < (m.length : Int) then (if (rdOf false m (x) = true) then (Zaw.l1 k2 a1 au m L z (n) (Int.tmod (rd G z) 256) (wrap64 (i + 1)) B D E l) else (if L.length < 17592186044416 then (Zaw.l1 k2 a1 au (m.set ((x) : Int).toNat true) (L ++ [x]) z (n) (Int.tmod (rd G z) 256) (wrap64 (i + 1)) B D E l) else (none))) else (none)) else (none)) = some r := by first | (rw [aE] at H; exact H) | (simp only [aE] at H ⊢; exact H)
     (try rw [aE] at aN)
     have cE : (IntKind.i64.wrap ((wrap64 ((rd (Zae l (n)) i) * 256)) + (q))) = x := (Zci _).trans aE
     (try (have bX := cE; simp only [eq_of_beq co] at bX))
     obtain ⟨ek, H⟩ := gE H
     obtain ⟨el, H⟩ := gE H
     obtain ⟨di, a3⟩ := nm (rdOf false m (x))
     rw [← a3.out] at H
     by_cases cr : (di = true)
     ·subst cr
      rw [if_pos rfl] at H
      have H' := mA H
      clear H
      have dS : wr.cell? ⟨s, 0, none⟩ = some (.int .i64 B) := bc a 0
      have dU : wr.cell? ⟨s, 1, none⟩ = some (.int .i64 D) := bc a 1
      have dV : wr.cell? ⟨s, 2, none⟩ = some (.int .i64 E) := bc a 2
      have dW : wr.cell? ⟨s, 3, none⟩ = some (.slice aD l.length O) := bc a 3
      have dX := Zaa a.out 0
      have dY := Zaa a.out 1
      have dZ := Zaa a.out 2
      have d0 := Zaa a.out 3
      have ah : 0 ≤ ((n) : Int) := ofD
      have ai : (n) < (l.length : Int) := ofD
      obtain ⟨U, bq, br, aZ, J, W, X⟩ := at_L1 bp.out (n) ah ai
      cases aZ
      replace J := (HB.out.cell (wB w J)).trans J
      have ar := mA X
      have bn := mA W
      clear X W
      replace ah := eq_true ah
      replace ai := eq_true ai
      have aj : 0 ≤ (i : Int) := ofD
      have ak : i < ((Zae l (n)).length : Int) := ofD
      obtain ⟨bF, a0, K⟩ := zK ar.out i aj ak
      cases a0
      replace K := (HB.out.cell (wB w K)).trans K
      replace aj := eq_true aj
      replace ak := eq_true ak
      go_wp2_with (first | (go_at_call 37; (with_reducible refine (Zba.calls i T _ aN.out).mono ?_); rintro e w' ⟨rfl, ⟨nd, rfl⟩⟩; (try first | exact dwD | exact dwE); have am : 0 ≤ ((q) : Int) := ofD; have an : ((q) : Int) < ((y.length : Int) : Int) := ofD; obtain ⟨A, I, ao, ap, aR, bQ, aq⟩ := yC d.out (by omega); (first | cases ao | (injection ao with ea_ en_ ec_; (first | subst ea_ | (injection ea_ with ea_; subst ea_)); subst ec_; clear en_)); have aT := mA ap; have bR := mA aq; clear ap aR aq; obtain ⟨bd, bf⟩ := zI false d.out ((q) : Int) am an; replace am := eq_true am; replace an := eq_true an; obtain ⟨bw, bx⟩ := zI false d.out ((q) : Int) (ofD) (ofD); have ay := zS d.out ((q) : Int) true) | ((with_reducible refine Zbp (t := 4) (p := 60) rfl ?_); (try (rw [Zct wr]; generalize hq_ : World.drewN wr _ = wr; replace d := mA (zR hq_ d.out); replace c := mA (zR hq_ c.out); replace j := mA (zR hq_ j.out); replace a := mA (blk_at hq_ a.out); replace HB := mA (Zc4 hq_ HB.out); clear hq_; (try (obtain ⟨bw, bx⟩ := zI false d.out ((q) : Int) (ofD) (ofD))); (try (have ay := zS d.out ((q) : Int) true)))); refine storeS (t := 4) (p := 60) (w1 := (wr.setCell ⟨A, ((q) : Int).toNat, none⟩ (.bool true))) ?_; intro bg hw; have hg : wr.grownBy bg (some A) := (by rw [hw]; exact ay.2); have hp_ : Kd.R Kd.bool 4 bg w.heap.size (fun k_ => some k_ ≠ (aI : Value).ownBlock) (.slice (some ⟨A, 0, none⟩) y.length I) au := (by rw [hw, bo.out]; exact ay.1); clear ay; replace c := mA (yA (v := (.slice (some ⟨A, 0, none⟩) y.length I)) (v1 := (.slice (some ⟨A, 0, none⟩) y.length I)) (ok := (fun _ => True)) (by (with_reducible repeat (first | apply zE | apply zD | apply zB)); exact zA c.out (fun _ hk => ⟨trivial, hk⟩)) hg (.inl rfl)); replace j := mA (zW (v := (.slice (some ⟨A, 0, none⟩) y.length I)) (rP j.out) (zV d.out) (by decide) hg); replace a := mA (Zay (g := s) (o := .cells #[.int .i64 B, .int .i64 D, .int .i64 E, .slice (some U) l.length O] 34 (0, 0)) (bP a.out) hg (zM d.out a.out (by decide))); replace d := mA (hp_); replace HB := mA ((by rw [hw]; exact Zbs (HB.out) aT.out : Below w.heap.size w bg)); clear hg hw hp_; obtain ⟨cF, cG, bS⟩ := zH c.out; subst bS; have ac : 0 ≤ ((x) : Int) := ofD; have ad : (x) < (m.length : Int) := ofD; obtain ⟨bz, aU, Z⟩ := zP (zF c.out).2.2 (x) ac ad; (try rw [← a3.out] at Z); cases aU; replace ac := eq_true ac; replace ad := eq_true ad))
      repeat (go_quiet (first | (go_at_call 37; (with_reducible refine (Zba.calls i T _ aN.out).mono ?_); rintro e w' ⟨rfl, ⟨nd, rfl⟩⟩; (try first | exact dwD | exact dwE); have am : 0 ≤ ((q) : Int) := ofD; have an : ((q) : Int) < ((y.length : Int) : Int) := ofD; obtain ⟨A, I, ao, ap, aR, bQ, aq⟩ := yC d.out (by omega); (first | cases ao | (injection ao with ea_ en_ ec_; (first | subst ea_ | (injection ea_ with ea_; subst ea_)); subst ec_; clear en_)); have aT := mA ap; have bR := mA aq; clear ap aR aq; obtain ⟨bd, bf⟩ := zI false d.out ((q) : Int) am an; replace am := eq_true am; replace an := eq_true an; obtain ⟨bw, bx⟩ := zI false d.out ((q) : Int) (ofD) (ofD); have ay := zS d.out ((q) : Int) true) | ((with_reducible refine Zbp (t := 4) (p := 60) rfl ?_); (try (rw [Zct wr]; generalize hq_ : World.drewN wr _ = wr; replace d := mA (zR hq_ d.out); replace c := mA (zR hq_ c.out); replace j := mA (zR hq_ j.out); replace a := mA (blk_at hq_ a.out); replace HB := mA (Zc4 hq_ HB.out); clear hq_; (try (obtain ⟨bw, bx⟩ := zI false d.out ((q) : Int) (ofD) (ofD))); (try (have ay := zS d.out ((q) : Int) true)))); refine storeS (t := 4) (p := 60) (w1 := (wr.setCell ⟨A, ((q) : Int).toNat, none⟩ (.bool true))) ?_; intro bg hw; have hg : wr.grownBy bg (some A) := (by rw [hw]; exact ay.2); have hp_ : Kd.R Kd.bool 4 bg w.heap.size (fun k_ => some k_ ≠ (aI : Value).ownBlock) (.slice (some ⟨A, 0, none⟩) y.length I) au := (by rw [hw, bo.out]; exact ay.1); clear ay; replace c := mA (yA (v := (.slice (some ⟨A, 0, none⟩) y.length I)) (v1 := (.slice (some ⟨A, 0, none⟩) y.length I)) (ok := (fun _ => True)) (by (with_reducible repeat (first | apply zE | apply zD | apply zB)); exact zA c.out (fun _ hk => ⟨trivial, hk⟩)) hg (.inl rfl)); replace j := mA (zW (v := (.slice (some ⟨A, 0, none⟩) y.length I)) (rP j.out) (zV d.out) (by decide) hg); replace a := mA (Zay (g := s) (o := .cells #[.int .i64 B, .int .i64 D, .int .i64 E, .slice (some U) l.length O] 34 (0, 0)) (bP a.out) hg (zM d.out a.out (by decide))); replace d := mA (hp_); replace HB := mA ((by rw [hw]; exact Zbs (HB.out) aT.out : Below w.heap.size w bg)); clear hg hw hp_; obtain ⟨cF, cG, bS⟩ := zH c.out; subst bS; have ac : 0 ≤ ((x) : Int) := ofD; have ad : (x) < (m.length : Int) := ofD; obtain ⟨bz, aU, Z⟩ := zP (zF c.out).2.2 (x) ac ad; (try rw [← a3.out] at Z); cases aU; replace ac := eq_true ac; replace ad := eq_true ad)); try go_wp2_with (first | (go_at_call 37; (with_reducible refine (Zba.calls i T _ aN.out).mono ?_); rintro e w' ⟨rfl, ⟨nd, rfl⟩⟩; (try first | exact dwD | exact dwE); have am : 0 ≤ ((q) : Int) := ofD; have an : ((q) : Int) < ((y.length : Int) : Int) := ofD; obtain ⟨A, I, ao, ap, aR, bQ, aq⟩ := yC d.out (by omega); (first | cases ao | (injection ao with ea_ en_ ec_; (first | subst ea_ | (injection ea_ with ea_; subst ea_)); subst ec_; clear en_)); have aT := mA ap; have bR := mA aq; clear ap aR aq; obtain ⟨bd, bf⟩ := zI false d.out ((q) : Int) am an; replace am := eq_true am; replace an := eq_true an; obtain ⟨bw, bx⟩ := zI false d.out ((q) : Int) (ofD) (ofD); have ay := zS d.out ((q) : Int) true) | ((with_reducible refine Zbp (t := 4) (p := 60) rfl ?_); (try (rw [Zct wr]; generalize hq_ : World.drewN wr _ = wr; replace d := mA (zR hq_ d.out); replace c := mA (zR hq_ c.out); replace j := mA (zR hq_ j.out); replace a := mA (blk_at hq_ a.out); replace HB := mA (Zc4 hq_ HB.out); clear hq_; (try (obtain ⟨bw, bx⟩ := zI false d.out ((q) : Int) (ofD) (ofD))); (try (have ay := zS d.out ((q) : Int) true)))); refine storeS (t := 4) (p := 60) (w1 := (wr.setCell ⟨A, ((q) : Int).toNat, none⟩ (.bool true))) ?_; intro bg hw; have hg : wr.grownBy bg (some A) := (by rw [hw]; exact ay.2); have hp_ : Kd.R Kd.bool 4 bg w.heap.size (fun k_ => some k_ ≠ (aI : Value).ownBlock) (.slice (some ⟨A, 0, none⟩) y.length I) au := (by rw [hw, bo.out]; exact ay.1); clear ay; replace c := mA (yA (v := (.slice (some ⟨A, 0, none⟩) y.length I)) (v1 := (.slice (some ⟨A, 0, none⟩) y.length I)) (ok := (fun _ => True)) (by (with_reducible repeat (first | apply zE | apply zD | apply zB)); exact zA c.out (fun _ hk => ⟨trivial, hk⟩)) hg (.inl rfl)); replace j := mA (zW (v := (.slice (some ⟨A, 0, none⟩) y.length I)) (rP j.out) (zV d.out) (by decide) hg); replace a := mA (Zay (g := s) (o := .cells #[.int .i64 B, .int .i64 D, .int .i64 E, .slice (some U) l.length O] 34 (0, 0)) (bP a.out) hg (zM d.out a.out (by decide))); replace d := mA (hp_); replace HB := mA ((by rw [hw]; exact Zbs (HB.out) aT.out : Below w.heap.size w bg)); clear hg hw hp_; obtain ⟨cF, cG, bS⟩ := zH c.out; subst bS; have ac : 0 ≤ ((x) : Int) := ofD; have ad : (x) < (m.length : Int) := ofD; obtain ⟨bz, aU, Z⟩ := zP (zF c.out).2.2 (x) ac ad; (try rw [← a3.out] at Z); cases aU; replace ac := eq_true ac; replace ad := eq_true ad)))
      (try subst aK)
      (try subst aM)
      (try subst aE)
      (try subst aG)
      go_roundg k2
      case measure => have := a4.out; have := a5.out; omega
      case rel => exact ⟨(au), (m), (L), (wrap64 (i + 1)), (eW), H', ⟨by have := a4.out; have := a5.out; omega⟩, ⟨rP d.out⟩, ⟨by (with_reducible repeat (first | apply zE | apply zD | apply zB)); exact zA c.out (fun _ hk => hk.2)⟩, ⟨rP j.out⟩, ⟨bP a.out⟩, ⟨bW⟩⟩
     replace cr := Bool.eq_false_iff.mpr cr
     subst cr
     rw [iF] at H
     obtain ⟨cc, bI⟩ := nm ((m.set ((x) : Int).toNat true) : List Bool)
     rw [← bI.out] at H
     by_cases ct : L.length < 17592186044416; rotate_left
     ·rw [if_neg ct] at H
      exact absurd H (by simp)
     rw [if_pos ct] at H
     have cd := mA ct
     clear ct
     obtain ⟨dj, bJ⟩ := nm ((L ++ [x]) : List Int)
     rw [← bJ.out] at H
     have H' := mA H
     clear H
     have d1 : wr.cell? ⟨s, 0, none⟩ = some (.int .i64 B) := bc a 0
     have d2 : wr.cell? ⟨s, 1, none⟩ = some (.int .i64 D) := bc a 1
     have d3 : wr.cell? ⟨s, 2, none⟩ = some (.int .i64 E) := bc a 2
     have d4 : wr.cell? ⟨s, 3, none⟩ = some (.slice aD l.length O) := bc a 3
     have d5 := Zaa a.out 0
     have d6 := Zaa a.out 1
     have d7 := Zaa a.out 2
     have d8 := Zaa a.out 3
     have ah : 0 ≤ ((n) : Int) := ofD
     have ai : (n) < (l.length : Int) := ofD
     obtain ⟨U, bq, br, aZ, J, W, X⟩ := at_L1 bp.out (n) ah ai
     cases aZ
     replace J := (HB.out.cell (wB w J)).trans J
     have ar := mA X
     have bn := mA W
     clear X W
     replace ah := eq_true ah
     replace ai := eq_true ai
     have aj : 0 ≤ (i : Int) := ofD
     have ak : i < ((Zae l (n)).length : Int) := ofD
     obtain ⟨bF, a0, K⟩ := zK ar.out i aj ak
     cases a0
     replace K := (HB.out.cell (wB w K)).trans K
     replace aj := eq_true aj
     replace ak := eq_true ak
     go_wp2_with (first | (go_at_call 37; (with_reducible refine (Zba.calls i T _ aN.out).mono ?_); rintro e w' ⟨rfl, ⟨nd, rfl⟩⟩; (try first | exact dwD | exact dwE); have am : 0 ≤ ((q) : Int) := ofD; have an : ((q) : Int) < ((y.length : Int) : Int) := ofD; obtain ⟨A, I, ao, ap, aR, bQ, aq⟩ := yC d.out (by omega); (first | cases ao | (injection ao with ea_ en_ ec_; (first | subst ea_ | (injection ea_ with ea_; subst ea_)); subst ec_; clear en_)); have aT := mA ap; have bR := mA aq; clear ap aR aq; obtain ⟨bd, bf⟩ := zI false d.out ((q) : Int) am an; replace am := eq_true am; replace an := eq_true an; obtain ⟨bB, bC⟩ := zI false d.out ((q) : Int) (ofD) (ofD); have az := zS d.out ((q) : Int) true) | ((with_reducible refine Zbp (t := 4) (p := 60) rfl ?_); (try (rw [Zct wr]; generalize hq_ : World.drewN wr _ = wr; replace d := mA (zR hq_ d.out); replace c := mA (zR hq_ c.out); replace j := mA (zR hq_ j.out); replace a := mA (blk_at hq_ a.out); replace HB := mA (Zc4 hq_ HB.out); clear hq_; (try (obtain ⟨bB, bC⟩ := zI false d.out ((q) : Int) (ofD) (ofD))); (try (have az := zS d.out ((q) : Int) true)))); refine storeS (t := 4) (p := 60) (w1 := (wr.setCell ⟨A, ((q) : Int).toNat, none⟩ (.bool true))) ?_; intro P hw; have hg : wr.grownBy P (some A) := (by rw [hw]; exact az.2); have hp_ : Kd.R Kd.bool 4 P w.heap.size (fun k_ => some k_ ≠ (aI : Value).ownBlock) (.slice (some ⟨A, 0, none⟩) y.length I) au := (by rw [hw, bo.out]; exact az.1); clear az; replace c := mA (yA (v := (.slice (some ⟨A, 0, none⟩) y.length I)) (v1 := (.slice (some ⟨A, 0, none⟩) y.length I)) (ok := (fun _ => True)) (by (with_reducible repeat (first | apply zE | apply zD | apply zB)); exact zA c.out (fun _ hk => ⟨trivial, hk⟩)) hg (.inl rfl)); replace j := mA (zW (v := (.slice (some ⟨A, 0, none⟩) y.length I)) (rP j.out) (zV d.out) (by decide) hg); replace a := mA (Zay (g := s) (o := .cells #[.int .i64 B, .int .i64 D, .int .i64 E, .slice (some U) l.length O] 34 (0, 0)) (bP a.out) hg (zM d.out a.out (by decide))); replace d := mA (hp_); replace HB := mA ((by rw [hw]; exact Zbs (HB.out) aT.out : Below w.heap.size w P)); clear hg hw hp_; obtain ⟨cH, aA, bT⟩ := zH c.out; subst bT; have ac : 0 ≤ ((x) : Int) := ofD; have ad : (x) < (m.length : Int) := ofD; obtain ⟨bz, aU, Z⟩ := zP (zF c.out).2.2 (x) ac ad; (try rw [← a3.out] at Z); cases aU; replace ac := eq_true ac; replace ad := eq_true ad; have bh : 0 ≤ ((x) : Int) := ofD; have bi : ((x) : Int) < ((m.length : Int) : Int) := ofD; obtain ⟨ag, cI, bj, bk, bU, cJ, bl⟩ := yC c.out (by omega); (first | cases bj | (injection bj with ea_ en_ ec_; (first | subst ea_ | (injection ea_ with ea_; subst ea_)); subst ec_; clear en_)); have bV := mA bk; have cK := mA bl; clear bk bU bl; (first | simp only [Zb1] at Z | skip); obtain ⟨ch, ci⟩ := zI false c.out ((x) : Int) bh bi; replace bh := eq_true bh; replace bi := eq_true bi; have n_ := mA (zA (ok' := (fun k_ => some k_ ≠ (.slice (some ⟨A, 0, none⟩) y.length I : Value).ownBlock)) c.out (fun k_ hk => hk.2)); clear c; have c := n_; clear n_; obtain ⟨bD, bE⟩ := zI false c.out ((x) : Int) (ofD) (ofD); have aC := zS c.out ((x) : Int) true) | ((with_reducible refine Zbp (t := 4) (p := 74) rfl ?_); (try ((repeat rw [World.drewN_drewN P]); (first | (rw [(rfl : World.drewN P _ = World.drewN P _)]; generalize hq_ : World.drewN P _ = P) | (rw [Zct P]; generalize hq_ : World.drewN P _ = P)); replace d := mA (zR hq_ d.out); replace c := mA (zR hq_ c.out); replace j := mA (zR hq_ j.out); replace a := mA (blk_at hq_ a.out); replace HB := mA (Zc4 hq_ HB.out); clear hq_; (try (have n_ := mA (zA (ok' := (fun k_ => some k_ ≠ (.slice (some ⟨A, 0, none⟩) y.length I : Value).ownBlock)) c.out (fun k_ hk => hk.2)); clear c; have c := n_; clear n_)); (try (obtain ⟨bD, bE⟩ := zI false c.out ((x) : Int) (ofD) (ofD))); (try (have aC := zS c.out ((x) : Int) true)))); refine storeS (t := 4) (p := 74) (w1 := (P.setCell ⟨ag, ((x) : Int).toNat, none⟩ (.bool true))) ?_; intro bm hw; have hg : P.grownBy bm (some ag) := (by rw [hw]; exact aC.2); have hp_ : Kd.R Kd.bool 4 bm w.heap.size (fun k_ => some k_ ≠ (.slice (some ⟨A, 0, none⟩) y.length I : Value).ownBlock) (.slice (some ⟨ag, 0, none⟩) m.length aA) cc := (by rw [hw, bI.out]; exact aC.1); clear aC; replace d := mA (yA (v := (.slice (some ⟨ag, 0, none⟩) m.length aA)) (v1 := (.slice (some ⟨ag, 0, none⟩) m.length aA)) (ok := (fun _ => True)) (by (with_reducible repeat (first | apply zE | apply zD | apply zB)); exact zA d.out (fun _ hk => ⟨trivial, hk⟩)) hg (.inl rfl)); replace j := mA (zW (v := (.slice (some ⟨ag, 0, none⟩) m.length aA)) (rP j.out) (zV c.out) (by decide) hg); replace a := mA (Zay (g := s) (o := .cells #[.int .i64 B, .int .i64 D, .int .i64 E, .slice (some U) l.length O] 34 (0, 0)) (bP a.out) hg (zM c.out a.out (by decide))); replace c := mA (hp_); replace HB := mA ((by rw [hw]; exact Zbs (HB.out) bV.out : Below w.heap.size w bm)); clear hg hw hp_) | ((with_reducible refine Zch (b := .append) (xs := #[.tmp 75, .tmp 80]) rfl ?_); at_builtin; refine yO (Kd.int .i64) (w0 := w) w.heap.size rfl (.tmp 75) (.tmp 80) 22 2 (.int .i64 0) 8 rfl Tryd.underlying22 info2 rfl (by decide) (by omega) u7 L x [.int .i64 x] (fun _ => True) (fun _ => False) rfl rfl ?aP (fun _ hk => hk.elim) ?aF ?aO ?aB ?aS ?aL ?_; (case aP => exact rfl); (case aB => exact (bW)); (case aF => exact (fun _ _ => trivial)); (case aO => exact (rP j.out)); (case aS => exact (Zao (bW))); (case aL => have := cd.out; omega); intro cL cW ho hb hg hat; rw [← bJ.out] at ho; replace d := mA (zW (rP d.out) (zV (rP j.out)) (by decide) hg); replace c := mA (zW (rP c.out) (zV (rP j.out)) (by decide) hg); replace a := mA (Zay (g := s) (o := .cells #[.int .i64 B, .int .i64 D, .int .i64 E, .slice (some U) l.length O] 34 (0, 0)) (bP a.out) hg (zM j.out a.out (by decide))); replace HB := mA (hb); have ce := mA (ho); clear j ho hb hg hat))
     repeat (go_quiet (first | (go_at_call 37; (with_reducible refine (Zba.calls i T _ aN.out).mono ?_); rintro e w' ⟨rfl, ⟨nd, rfl⟩⟩; (try first | exact dwD | exact dwE); have am : 0 ≤ ((q) : Int) := ofD; have an : ((q) : Int) < ((y.length : Int) : Int) := ofD; obtain ⟨A, I, ao, ap, aR, bQ, aq⟩ := yC d.out (by omega); (first | cases ao | (injection ao with ea_ en_ ec_; (first | subst ea_ | (injection ea_ with ea_; subst ea_)); subst ec_; clear en_)); have aT := mA ap; have bR := mA aq; clear ap aR aq; obtain ⟨bd, bf⟩ := zI false d.out ((q) : Int) am an; replace am := eq_true am; replace an := eq_true an; obtain ⟨bB, bC⟩ := zI false d.out ((q) : Int) (ofD) (ofD); have az := zS d.out ((q) : Int) true) | ((with_reducible refine Zbp (t := 4) (p := 60) rfl ?_); (try (rw [Zct wr]; generalize hq_ : World.drewN wr _ = wr; replace d := mA (zR hq_ d.out); replace c := mA (zR hq_ c.out); replace j := mA (zR hq_ j.out); replace a := mA (blk_at hq_ a.out); replace HB := mA (Zc4 hq_ HB.out); clear hq_; (try (obtain ⟨bB, bC⟩ := zI false d.out ((q) : Int) (ofD) (ofD))); (try (have az := zS d.out ((q) : Int) true)))); refine storeS (t := 4) (p := 60) (w1 := (wr.setCell ⟨A, ((q) : Int).toNat, none⟩ (.bool true))) ?_; intro P hw; have hg : wr.grownBy P (some A) := (by rw [hw]; exact az.2); have hp_ : Kd.R Kd.bool 4 P w.heap.size (fun k_ => some k_ ≠ (aI : Value).ownBlock) (.slice (some ⟨A, 0, none⟩) y.length I) au := (by rw [hw, bo.out]; exact az.1); clear az; replace c := mA (yA (v := (.slice (some ⟨A, 0, none⟩) y.length I)) (v1 := (.slice (some ⟨A, 0, none⟩) y.length I)) (ok := (fun _ => True)) (by (with_reducible repeat (first | apply zE | apply zD | apply zB)); exact zA c.out (fun _ hk => ⟨trivial, hk⟩)) hg (.inl rfl)); replace j := mA (zW (v := (.slice (some ⟨A, 0, none⟩) y.length I)) (rP j.out) (zV d.out) (by decide) hg); replace a := mA (Zay (g := s) (o := .cells #[.int .i64 B, .int .i64 D, .int .i64 E, .slice (some U) l.length O] 34 (0, 0)) (bP a.out) hg (zM d.out a.out (by decide))); replace d := mA (hp_); replace HB := mA ((by rw [hw]; exact Zbs (HB.out) aT.out : Below w.heap.size w P)); clear hg hw hp_; obtain ⟨cH, aA, bT⟩ := zH c.out; subst bT; have ac : 0 ≤ ((x) : Int) := ofD; have ad : (x) < (m.length : Int) := ofD; obtain ⟨bz, aU, Z⟩ := zP (zF c.out).2.2 (x) ac ad; (try rw [← a3.out] at Z); cases aU; replace ac := eq_true ac; replace ad := eq_true ad; have bh : 0 ≤ ((x) : Int) := ofD; have bi : ((x) : Int) < ((m.length : Int) : Int) := ofD; obtain ⟨ag, cI, bj, bk, bU, cJ, bl⟩ := yC c.out (by omega); (first | cases bj | (injection bj with ea_ en_ ec_; (first | subst ea_ | (injection ea_ with ea_; subst ea_)); subst ec_; clear en_)); have bV := mA bk; have cK := mA bl; clear bk bU bl; (first | simp only [Zb1] at Z | skip); obtain ⟨ch, ci⟩ := zI false c.out ((x) : Int) bh bi; replace bh := eq_true bh; replace bi := eq_true bi; have n_ := mA (zA (ok' := (fun k_ => some k_ ≠ (.slice (some ⟨A, 0, none⟩) y.length I : Value).ownBlock)) c.out (fun k_ hk => hk.2)); clear c; have c := n_; clear n_; obtain ⟨bD, bE⟩ := zI false c.out ((x) : Int) (ofD) (ofD); have aC := zS c.out ((x) : Int) true) | ((with_reducible refine Zbp (t := 4) (p := 74) rfl ?_); (try ((repeat rw [World.drewN_drewN P]); (first | (rw [(rfl : World.drewN P _ = World.drewN P _)]; generalize hq_ : World.drewN P _ = P) | (rw [Zct P]; generalize hq_ : World.drewN P _ = P)); replace d := mA (zR hq_ d.out); replace c := mA (zR hq_ c.out); replace j := mA (zR hq_ j.out); replace a := mA (blk_at hq_ a.out); replace HB := mA (Zc4 hq_ HB.out); clear hq_; (try (have n_ := mA (zA (ok' := (fun k_ => some k_ ≠ (.slice (some ⟨A, 0, none⟩) y.length I : Value).ownBlock)) c.out (fun k_ hk => hk.2)); clear c; have c := n_; clear n_)); (try (obtain ⟨bD, bE⟩ := zI false c.out ((x) : Int) (ofD) (ofD))); (try (have aC := zS c.out ((x) : Int) true)))); refine storeS (t := 4) (p := 74) (w1 := (P.setCell ⟨ag, ((x) : Int).toNat, none⟩ (.bool true))) ?_; intro bm hw; have hg : P.grownBy bm (some ag) := (by rw [hw]; exact aC.2); have hp_ : Kd.R Kd.bool 4 bm w.heap.size (fun k_ => some k_ ≠ (.slice (some ⟨A, 0, none⟩) y.length I : Value).ownBlock) (.slice (some ⟨ag, 0, none⟩) m.length aA) cc := (by rw [hw, bI.out]; exact aC.1); clear aC; replace d := mA (yA (v := (.slice (some ⟨ag, 0, none⟩) m.length aA)) (v1 := (.slice (some ⟨ag, 0, none⟩) m.length aA)) (ok := (fun _ => True)) (by (with_reducible repeat (first | apply zE | apply zD | apply zB)); exact zA d.out (fun _ hk => ⟨trivial, hk⟩)) hg (.inl rfl)); replace j := mA (zW (v := (.slice (some ⟨ag, 0, none⟩) m.length aA)) (rP j.out) (zV c.out) (by decide) hg); replace a := mA (Zay (g := s) (o := .cells #[.int .i64 B, .int .i64 D, .int .i64 E, .slice (some U) l.length O] 34 (0, 0)) (bP a.out) hg (zM c.out a.out (by decide))); replace c := mA (hp_); replace HB := mA ((by rw [hw]; exact Zbs (HB.out) bV.out : Below w.heap.size w bm)); clear hg hw hp_) | ((with_reducible refine Zch (b := .append) (xs := #[.tmp 75, .tmp 80]) rfl ?_); at_builtin; refine yO (Kd.int .i64) (w0 := w) w.heap.size rfl (.tmp 75) (.tmp 80) 22 2 (.int .i64 0) 8 rfl Tryd.underlying22 info2 rfl (by decide) (by omega) u7 L x [.int .i64 x] (fun _ => True) (fun _ => False) rfl rfl ?aP (fun _ hk => hk.elim) ?aF ?aO ?aB ?aS ?aL ?_; (case aP => exact rfl); (case aB => exact (bW)); (case aF => exact (fun _ _ => trivial)); (case aO => exact (rP j.out)); (case aS => exact (Zao (bW))); (case aL => have := cd.out; omega); intro cL cW ho hb hg hat; rw [← bJ.out] at ho; replace d := mA (zW (rP d.out) (zV (rP j.out)) (by decide) hg); replace c := mA (zW (rP c.out) (zV (rP j.out)) (by decide) hg); replace a := mA (Zay (g := s) (o := .cells #[.int .i64 B, .int .i64 D, .int .i64 E, .slice (some U) l.length O] 34 (0, 0)) (bP a.out) hg (zM j.out a.out (by decide))); replace HB := mA (hb); have ce := mA (ho); clear j ho hb hg hat)); try go_wp2_with (first | (go_at_call 37; (with_reducible refine (Zba.calls i T _ aN.out).mono ?_); rintro e w' ⟨rfl, ⟨nd, rfl⟩⟩; (try first | exact dwD | exact dwE); have am : 0 ≤ ((q) : Int) := ofD; have an : ((q) : Int) < ((y.length : Int) : Int) := ofD; obtain ⟨A, I, ao, ap, aR, bQ, aq⟩ := yC d.out (by omega); (first | cases ao | (injection ao with ea_ en_ ec_; (first | subst ea_ | (injection ea_ with ea_; subst ea_)); subst ec_; clear en_)); have aT := mA ap; have bR := mA aq; clear ap aR aq; obtain ⟨bd, bf⟩ := zI false d.out ((q) : Int) am an; replace am := eq_true am; replace an := eq_true an; obtain ⟨bB, bC⟩ := zI false d.out ((q) : Int) (ofD) (ofD); have az := zS d.out ((q) : Int) true) | ((with_reducible refine Zbp (t := 4) (p := 60) rfl ?_); (try (rw [Zct wr]; generalize hq_ : World.drewN wr _ = wr; replace d := mA (zR hq_ d.out); replace c := mA (zR hq_ c.out); replace j := mA (zR hq_ j.out); replace a := mA (blk_at hq_ a.out); replace HB := mA (Zc4 hq_ HB.out); clear hq_; (try (obtain ⟨bB, bC⟩ := zI false d.out ((q) : Int) (ofD) (ofD))); (try (have az := zS d.out ((q) : Int) true)))); refine storeS (t := 4) (p := 60) (w1 := (wr.setCell ⟨A, ((q) : Int).toNat, none⟩ (.bool true))) ?_; intro P hw; have hg : wr.grownBy P (some A) := (by rw [hw]; exact az.2); have hp_ : Kd.R Kd.bool 4 P w.heap.size (fun k_ => some k_ ≠ (aI : Value).ownBlock) (.slice (some ⟨A, 0, none⟩) y.length I) au := (by rw [hw, bo.out]; exact az.1); clear az; replace c := mA (yA (v := (.slice (some ⟨A, 0, none⟩) y.length I)) (v1 := (.slice (some ⟨A, 0, none⟩) y.length I)) (ok := (fun _ => True)) (by (with_reducible repeat (first | apply zE | apply zD | apply zB)); exact zA c.out (fun _ hk => ⟨trivial, hk⟩)) hg (.inl rfl)); replace j := mA (zW (v := (.slice (some ⟨A, 0, none⟩) y.length I)) (rP j.out) (zV d.out) (by decide) hg); replace a := mA (Zay (g := s) (o := .cells #[.int .i64 B, .int .i64 D, .int .i64 E, .slice (some U) l.length O] 34 (0, 0)) (bP a.out) hg (zM d.out a.out (by decide))); replace d := mA (hp_); replace HB := mA ((by rw [hw]; exact Zbs (HB.out) aT.out : Below w.heap.size w P)); clear hg hw hp_; obtain ⟨cH, aA, bT⟩ := zH c.out; subst bT; have ac : 0 ≤ ((x) : Int) := ofD; have ad : (x) < (m.length : Int) := ofD; obtain ⟨bz, aU, Z⟩ := zP (zF c.out).2.2 (x) ac ad; (try rw [← a3.out] at Z); cases aU; replace ac := eq_true ac; replace ad := eq_true ad; have bh : 0 ≤ ((x) : Int) := ofD; have bi : ((x) : Int) < ((m.length : Int) : Int) := ofD; obtain ⟨ag, cI, bj, bk, bU, cJ, bl⟩ := yC c.out (by omega); (first | cases bj | (injection bj with ea_ en_ ec_; (first | subst ea_ | (injection ea_ with ea_; subst ea_)); subst ec_; clear en_)); have bV := mA bk; have cK := mA bl; clear bk bU bl; (first | simp only [Zb1] at Z | skip); obtain ⟨ch, ci⟩ := zI false c.out ((x) : Int) bh bi; replace bh := eq_true bh; replace bi := eq_true bi; have n_ := mA (zA (ok' := (fun k_ => some k_ ≠ (.slice (some ⟨A, 0, none⟩) y.length I : Value).ownBlock)) c.out (fun k_ hk => hk.2)); clear c; have c := n_; clear n_; obtain ⟨bD, bE⟩ := zI false c.out ((x) : Int) (ofD) (ofD); have aC := zS c.out ((x) : Int) true) | ((with_reducible refine Zbp (t := 4) (p := 74) rfl ?_); (try ((repeat rw [World.drewN_drewN P]); (first | (rw [(rfl : World.drewN P _ = World.drewN P _)]; generalize hq_ : World.drewN P _ = P) | (rw [Zct P]; generalize hq_ : World.drewN P _ = P)); replace d := mA (zR hq_ d.out); replace c := mA (zR hq_ c.out); replace j := mA (zR hq_ j.out); replace a := mA (blk_at hq_ a.out); replace HB := mA (Zc4 hq_ HB.out); clear hq_; (try (have n_ := mA (zA (ok' := (fun k_ => some k_ ≠ (.slice (some ⟨A, 0, none⟩) y.length I : Value).ownBlock)) c.out (fun k_ hk => hk.2)); clear c; have c := n_; clear n_)); (try (obtain ⟨bD, bE⟩ := zI false c.out ((x) : Int) (ofD) (ofD))); (try (have aC := zS c.out ((x) : Int) true)))); refine storeS (t := 4) (p := 74) (w1 := (P.setCell ⟨ag, ((x) : Int).toNat, none⟩ (.bool true))) ?_; intro bm hw; have hg : P.grownBy bm (some ag) := (by rw [hw]; exact aC.2); have hp_ : Kd.R Kd.bool 4 bm w.heap.size (fun k_ => some k_ ≠ (.slice (some ⟨A, 0, none⟩) y.length I : Value).ownBlock) (.slice (some ⟨ag, 0, none⟩) m.length aA) cc := (by rw [hw, bI.out]; exact aC.1); clear aC; replace d := mA (yA (v := (.slice (some ⟨ag, 0, none⟩) m.length aA)) (v1 := (.slice (some ⟨ag, 0, none⟩) m.length aA)) (ok := (fun _ => True)) (by (with_reducible repeat (first | apply zE | apply zD | apply zB)); exact zA d.out (fun _ hk => ⟨trivial, hk⟩)) hg (.inl rfl)); replace j := mA (zW (v := (.slice (some ⟨ag, 0, none⟩) m.length aA)) (rP j.out) (zV c.out) (by decide) hg); replace a := mA (Zay (g := s) (o := .cells #[.int .i64 B, .int .i64 D, .int .i64 E, .slice (some U) l.length O] 34 (0, 0)) (bP a.out) hg (zM c.out a.out (by decide))); replace c := mA (hp_); replace HB := mA ((by rw [hw]; exact Zbs (HB.out) bV.out : Below w.heap.size w bm)); clear hg hw hp_) | ((with_reducible refine Zch (b := .append) (xs := #[.tmp 75, .tmp 80]) rfl ?_); at_builtin; refine yO (Kd.int .i64) (w0 := w) w.heap.size rfl (.tmp 75) (.tmp 80) 22 2 (.int .i64 0) 8 rfl Tryd.underlying22 info2 rfl (by decide) (by omega) u7 L x [.int .i64 x] (fun _ => True) (fun _ => False) rfl rfl ?aP (fun _ hk => hk.elim) ?aF ?aO ?aB ?aS ?aL ?_; (case aP => exact rfl); (case aB => exact (bW)); (case aF => exact (fun _ _ => trivial)); (case aO => exact (rP j.out)); (case aS => exact (Zao (bW))); (case aL => have := cd.out; omega); intro cL cW ho hb hg hat; rw [← bJ.out] at ho; replace d := mA (zW (rP d.out) (zV (rP j.out)) (by decide) hg); replace c := mA (zW (rP c.out) (zV (rP j.out)) (by decide) hg); replace a := mA (Zay (g := s) (o := .cells #[.int .i64 B, .int .i64 D, .int .i64 E, .slice (some U) l.length O] 34 (0, 0)) (bP a.out) hg (zM j.out a.out (by decide))); replace HB := mA (hb); have ce := mA (ho); clear j ho hb hg hat)))
     (try subst aK)
     (try subst aM)
     (try subst aE)
     (try subst aG)
     go_roundg k2
     case measure => have := a4.out; have := a5.out; omega
     case rel => exact ⟨(au), (cc), (dj), (wrap64 (i + 1)), (eW), H', ⟨by have := a4.out; have := a5.out; omega⟩, ⟨by (with_reducible repeat (first | apply zE | apply zD | apply zB)); exact zA d.out (fun _ hk => hk.2)⟩, ⟨rP c.out⟩, ⟨rP ce.out⟩, ⟨bP a.out⟩, ⟨bW⟩⟩
end Go.Proofs.YtlmicipfikammaaDoor.P
end
