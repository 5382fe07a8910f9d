import Derived.Test.YtlmicipfikammaaDoorCFnExactLoopFault6
section
namespace Go.Proofs.YtlmicipfikammaaDoor.P
open Go.RowKit Go.Proofs.YtlmicipfikammaaDoor.Sh Go.Proofs.YtlmicipfikammaaDoorW.PrintWords Go.Proofs.YtlmicipfikammaaDoorW.PrintLast Go.Proofs.YtlmicipfikammaaDoorW.PrintMore
open Kd
attribute [local go_sem] Zb8 Zcb Zcm Zcl Zb4 Zb3 Zb7 Zcd   -- for this text's walks alone
set_option linter.unusedVariables false
set_option linter.unusedSimpArgs false
mutual
def Zaj.l0 : Nat → Int → Bool → Int → Int → Int → List (List Int) → Option (Int × Int)
 | 0, _, _, _, _, _, _ => none
 | k + 1, x4, x5, a, b, c, d => if x5 = true then (Zaj.l1 k x4 false 0 a b c d) else ((Zav.f k a b c d).bind fun e => ((Zat.f k e.1 e.2.1 e.2.2).bind fun g => (Zaj.l3 k x4 g 0 0 a b c d)))
def Zaj.l1 : Nat → Int → Bool → Int → Int → Int → Int → List (List Int) → Option (Int × Int)
 | 0, _, _, _, _, _, _, _ => none
 | k + 1, x4, x5, x6, a, b, c, d => (Za4.f a b c d).bind fun e => (if x6 < e then (Zaj.l2 k x4 x5 x6 0 a b c d) else (Zaj.l0 k x4 x5 a b c d))
def Zaj.l2 : Nat → Int → Bool → Int → Int → Int → Int → Int → List (List Int) → Option (Int × Int)
 | 0, _, _, _, _, _, _, _, _ => none
 | k + 1, x4, x5, x6, x7, a, b, c, d => if x7 < a then ((Zaq.f x4 x6).bind fun e => (Zaj.j3 k x4 x5 x6 x7 e a b c d)) else (Zaj.j3 k x4 x5 x6 x7 false a b c d)
def Zaj.j3 : Nat → Int → Bool → Int → Int → Bool → Int → Int → Int → List (List Int) → Option (Int × Int)
 | 0, _, _, _, _, _, _, _, _, _ => none
 | k + 1, x4, x5, x6, x7, h, b, c, d, a => if h = true then (if 0 ≤ x6 then (if x6 < (a.length : Int) then (if 0 ≤ x7 then (if x7 < ((Zae a x6).length : Int) then (if (rd (Zae a x6) x7) ≥ 0 then ((Zaq.f x4 (rd (Zae a x6) x7)).bind fun e => (if e = true then (Zaj.l2 k x4 x5 x6 (wrap64 (x7 + 1)) b c d a) else ((Zba.f (rd (Zae a x6) x7)).bind fun g => (Zaj.l2 k (Go.bits .or .i64 x4 g) true x6 (wrap64 (x7 + 1)) b c d a)))) else (Zaj.l2 k x4 x5 x6 (wrap64 (x7 + 1)) b c d a)) else (none)) else (none)) else (none)) else (none)) else (Zaj.l1 k x4 x5 (wrap64 (x6 + 1)) b c d a)
def Zaj.l3 : Nat → Int → List Bool → Int → Int → Int → Int → Int → List (List Int) → Option (Int × Int)
 | 0, _, _, _, _, _, _, _, _ => none
 | k + 1, x4, x9, h, e, a, b, c, d => (Za4.f a b c d).bind fun i => (if e < i then ((Zaq.f x4 e).bind fun j => (if j = true then ((Zb9.f a b c d e).bind fun g => (if 0 ≤ g then (if g < (x9.length : Int) then (if rdOf false x9 g = true then ((Zba.f e).bind fun l => (Zaj.l3 k x4 x9 (Go.bits .or .i64 h l) (wrap64 (e + 1)) a b c d)) else (Zaj.l3 k x4 x9 h (wrap64 (e + 1)) a b c d)) else (none)) else (none))) else (Zaj.l3 k x4 x9 h (wrap64 (e + 1)) a b c d))) else (some (h, 0)))
end
def Zaj.f (k : Nat) (b : Int) (a : Int) (c : Int) (d : List (List Int)) : Option (Int × Int) := (Za5.f k b a c d).bind fun e => (if e = true then ((Zba.f a).bind fun g => (Zaj.l0 k g true b a c d)) else (some (0, 1)))
set_option maxHeartbeats 8000000 in
set_option maxRecDepth 100000 in
theorem Zaj.calls (k : Nat) (g : Int) (d : Int) (i : Int) (j : Option Addr) (l : Nat) (c : List (List Int)) (r1 : Int) (r2 : Int) (w : World) (aA : Kd.C (Kd.slice 2 (Kd.int .i64)) w j c.length c) (aB : c.length ≤ l) (h : Zaj.f k g d i c = some (r1, r2)) :
  Calls Tryd.prog 46 #[.agg #[.int .i64 g, .int .i64 d, .int .i64 i, .slice j c.length l]] w fun e w' => e = .returned (.tuple #[.int .i64 r1, .int .i64 r2]) ∧ Below w.heap.size w w' := by
 have dR := Tryd.underlying34
 have s := mA aA
 have x := mA aB
 clear aA aB
 have HB := mA (Below.refl w.heap.size w)
 unfold Zaj.f at h
 have H := h
 clear h
 obtain ⟨bz, A2, H⟩ := bA H
 by_cases c3 : bz = true; rotate_left
 ·replace c3 := Bool.eq_false_iff.mpr c3
  subst c3
  rw [iF] at H
  simp only [Option.some.injEq, Prod.mk.injEq] at H
  obtain ⟨rfl, rfl⟩ := H
  go_enter Tryd.func46, Tryd.ntmps46
  go_wp2_with (first | ((with_reducible refine Zan (N := 1) rfl ?_); refine boxS (N := 1) (cs := #[.int .i64 g, .int .i64 d, .int .i64 i, .slice j c.length l]) (t := 34) ?_; intro b hg w64 hbox hb; have a := mA (hbox); have bn := geW (w := w) hg; have bo := geW (w := w) hg; replace HB := mA (Zac (bW) hb); clear hb hbox hg; obtain ⟨bN, bO, bQ, bR⟩ := Zbk a.out; obtain ⟨bS, bT, bU, bV⟩ := frz4 a.out) | ((with_reducible refine Zal (f := 53) rfl ?_); refine Zbc (some 13) Tryd.func53 #[.agg #[.int .i64 g, .int .i64 d, .int .i64 i, .slice j c.length l]] ?_; (with_reducible refine (Za5.calls k g d i _ _ c false _ ?side1 ?side2 A2.out).mono ?_); (case side1 => exact cP (zC s.out HB.out)); (case side2 => exact x.out); rintro e dZ ⟨rfl, hb⟩; refine ⟨_, rfl, ?_⟩; replace a := mA (blkB a.out hb); replace HB := mA (Zac (bW) hb); (try clear hb); (try clear hb2); (try clear hk); (try clear hi)))
  go_ret2
  exact ⟨eW, bW⟩
 subst c3
 rw [if_pos rfl] at H
 obtain ⟨a0, A4, H⟩ := bA H
 have H' := mA H
 clear H
 go_enter Tryd.func46, Tryd.ntmps46
 go_wp2_with (first | ((with_reducible refine Zan (N := 1) rfl ?_); refine boxS (N := 1) (cs := #[.int .i64 g, .int .i64 d, .int .i64 i, .slice j c.length l]) (t := 34) ?_; intro b hg w5 hbox hb; have a := mA (hbox); have bn := geW (w := w) hg; have bo := geW (w := w) hg; replace HB := mA (Zac (bW) hb); clear hb hbox hg; obtain ⟨a1, a2, a3, a4⟩ := Zbk a.out; obtain ⟨a5, a6, a7, a8⟩ := frz4 a.out) | ((with_reducible refine Zal (f := 53) rfl ?_); refine Zbc (some 13) Tryd.func53 #[.agg #[.int .i64 g, .int .i64 d, .int .i64 i, .slice j c.length l]] ?_; (with_reducible refine (Za5.calls k g d i _ _ c true _ ?side1 ?side2 A2.out).mono ?_); (case side1 => exact cP (zC s.out HB.out)); (case side2 => exact x.out); rintro e w7 ⟨rfl, hb⟩; refine ⟨_, rfl, ?_⟩; replace a := mA (blkB a.out hb); replace HB := mA (Zac (bW) hb); (try clear hb); (try clear hb2); (try clear hk); (try clear hi); obtain ⟨a9, ba, bb, bd⟩ := Zbk a.out; obtain ⟨bf, bg, bh, bi⟩ := frz4 a.out) | ((with_reducible refine Zal (f := 37) rfl ?_); refine Zbc (some 17) Tryd.func37 #[.int .i64 d] ?_; (with_reducible refine (Zba.calls d a0 _ A4.out).mono ?_); rintro e w' ⟨rfl, ⟨nd, rfl⟩⟩; refine ⟨_, rfl, ?_⟩))
 go_loopg [4, 5] k (fun kq v4 v5 w' => ∃ (A : Int) (an : Bool), v4 = .int .i64 A ∧ v5 = .bool an ∧ Zab (Zaj.l0 kq A an g d i c = some (r1, r2)) ∧ Zab (kq ≤ k) ∧ Zab (w'.heap[b]? = some (.cells #[.int .i64 g, .int .i64 d, .int .i64 i, (.slice j c.length l)] 34 (0, 0))) ∧ Zab (Below w.heap.size w w'))
 case atStart => exact ⟨(a0), (true), (eW), (eW), H', ⟨Nat.le_refl _⟩, ⟨bP a.out⟩, ⟨bW⟩⟩
 case round =>
  clear H' a1 a2 a3 a4 a9 ba bb bd a5 a6 a7 a8 bf bg bh bi
  obtain ⟨A, an, rfl, rfl, HA, z, a, HB⟩ := hrel
  cases gk with
  | zero => exact absurd HA.out (by simp [Zaj.l0])
  | succ k1 =>
   have H := HA.out
   clear HA
   simp only [Zaj.l0] at H
   by_cases c9 : an = true; rotate_left
   ·replace c9 := Bool.eq_false_iff.mpr c9
    subst c9
    rw [iF] at H
    obtain ⟨⟨au, av, aw⟩, A33, H⟩ := bA H
    try dsimp only at H
    obtain ⟨aa, dH, H⟩ := bA H
    have H' := mA H
    clear H
    have aK : wr.cell? ⟨b, 0, none⟩ = some (.int .i64 g) := bc a 0
    have aL : wr.cell? ⟨b, 1, none⟩ = some (.int .i64 d) := bc a 1
    have aM : wr.cell? ⟨b, 2, none⟩ = some (.int .i64 i) := bc a 2
    have aN : wr.cell? ⟨b, 3, none⟩ = some (.slice j c.length l) := bc a 3
    have aO := Zaa a.out 0
    have aP := Zaa a.out 1
    have aQ := Zaa a.out 2
    have aR := Zaa a.out 3
    go_wp2_with (first | ((with_reducible refine Zal (f := 85) rfl ?_); refine Zbc (some 57) Tryd.func85 #[.agg #[.int .i64 g, .int .i64 d, .int .i64 i, .slice j c.length l]] ?_; (with_reducible refine (Zav.calls k1 g d i _ _ c au av aw _ ?side1 ?side2 A33.out).mono ?_); (case side1 => exact cP (zC s.out HB.out)); (case side2 => exact x.out); rintro e d0 ⟨dS, dU, rfl, ah, bu, hb⟩; refine ⟨_, rfl, ?_⟩; have X := mA (xE ah (Zao (bW))); have M := mA (zQ bu (Zao (bW))); replace a := mA (blkB a.out hb); replace HB := mA (Zac (bW) hb); (try clear hb); (try clear hb2); (try clear hk); (try clear hi); (try clear ah); (try clear bu); obtain ⟨bB, bC, bD⟩ := xB X.out; subst bD; obtain ⟨bE, bF, bG⟩ := zH M.out; subst bG) | ((with_reducible refine Zal (f := 84) rfl ?_); refine Zbc (some 58) Tryd.func84 #[.agg #[.int .i64 au, .slice bB av.length bC, .slice bE aw.length bF]] ?_; (with_reducible refine (Zat.calls k1 au _ _ av _ _ aw aa _ ?side1 ?side2 ?side3 ?side4 dH.out).mono ?_); (case side1 => exact cP ((yU X.out).2.2)); (case side2 => exact (yU X.out).2.1); (case side3 => exact cP ((zF M.out).2.2)); (case side4 => exact (zF M.out).2.1); rintro e d1 ⟨bH, rfl, ah, hb⟩; refine ⟨_, rfl, ?_⟩; replace X := mA (yG (sP X.out) hb); have bp := mA (zQ (yM ah (yF (rP M.out))) (Zao (bW))); replace M := mA (yL (rP M.out) (zY ah) hb); replace a := mA (blkB a.out hb); replace HB := mA (Zac (bW) hb); (try clear hb); (try clear hb2); (try clear hk); (try clear hi); (try clear ah)))
    go_loopg [10, 11] k1 (fun kq v10 v11 w' => ∃ (O : Int) (o : Int), v10 = .int .i64 O ∧ v11 = .int .i64 o ∧ Zab (Zaj.l3 kq A aa O o g d i c = some (r1, r2)) ∧ Zab (kq ≤ k1) ∧ Zab (Kd.R Kd.bool 4 w' w.heap.size (fun _ => True) bH aa) ∧ Zab (w'.heap[b]? = some (.cells #[.int .i64 g, .int .i64 d, .int .i64 i, (.slice j c.length l)] 34 (0, 0))) ∧ Zab (Below w.heap.size w w'))
    case atStart => exact ⟨(0), (0), (eW), (eW), H', ⟨Nat.le_refl _⟩, ⟨by (with_reducible repeat (first | apply zE | apply zD | apply zB)); exact zA bp.out (fun _ hk => trivial)⟩, ⟨bP a.out⟩, ⟨bW⟩⟩
    case round =>
     clear H' aK aL aM aN aO aP aQ aR
     obtain ⟨O, o, rfl, rfl, HA, y, r, a, HB⟩ := hrel
     cases gk with
     | zero => exact absurd HA.out (by simp [Zaj.l3])
     | succ k2 =>
      have H := HA.out
      clear HA
      simp only [Zaj.l3] at H
      obtain ⟨ac, aC, H⟩ := bA H
      by_cases ai : o < ac; rotate_left
      ·rw [if_neg ai] at H
       have bq := dF ai
       clear ai
       simp only [Option.some.injEq, Prod.mk.injEq] at H
       obtain ⟨rfl, rfl⟩ := H
       have bX : wr.cell? ⟨b, 0, none⟩ = some (.int .i64 g) := bc a 0
       have bY : wr.cell? ⟨b, 1, none⟩ = some (.int .i64 d) := bc a 1
       have bZ : wr.cell? ⟨b, 2, none⟩ = some (.int .i64 i) := bc a 2
       have b0 : wr.cell? ⟨b, 3, none⟩ = some (.slice j c.length l) := bc a 3
       have b1 := Zaa a.out 0
       have b2 := Zaa a.out 1
       have b3 := Zaa a.out 2
       have b4 := Zaa a.out 3
       go_wp2_with (first | ((with_reducible refine Zal (f := 47) rfl ?_); refine Zbc (some 61) Tryd.func47 #[.agg #[.int .i64 g, .int .i64 d, .int .i64 i, .slice j c.length l]] ?_; (with_reducible refine (Za4.calls g d i _ _ c ac _ ?side1 ?side2 aC.out).mono ?_); (case side1 => exact cP (zC s.out HB.out)); (case side2 => exact x.out); rintro e d2 ⟨rfl, hb⟩; refine ⟨_, rfl, ?_⟩; replace r := mA (zG (rP r.out) hb); replace a := mA (blkB a.out hb); replace HB := mA (Zac (bW) hb); (try clear hb); (try clear hb2); (try clear hk); (try clear hi)))
       go_ret2
       exact ⟨eW, bW⟩
      rw [if_pos ai] at H
      have bq := dT ai
      clear ai
      obtain ⟨bI, bj, H⟩ := bA H
      by_cases aD : bI = true; rotate_left
      ·replace aD := Bool.eq_false_iff.mpr aD
       subst aD
       rw [iF] at H
       have H' := mA H
       clear H
       have b5 : wr.cell? ⟨b, 0, none⟩ = some (.int .i64 g) := bc a 0
       have b6 : wr.cell? ⟨b, 1, none⟩ = some (.int .i64 d) := bc a 1
       have b7 : wr.cell? ⟨b, 2, none⟩ = some (.int .i64 i) := bc a 2
       have b8 : wr.cell? ⟨b, 3, none⟩ = some (.slice j c.length l) := bc a 3
       have b9 := Zaa a.out 0
       have ca := Zaa a.out 1
       have cb := Zaa a.out 2
       have cc := Zaa a.out 3
       go_wp2_with (first | ((with_reducible refine Zal (f := 47) rfl ?_); refine Zbc (some 61) Tryd.func47 #[.agg #[.int .i64 g, .int .i64 d, .int .i64 i, .slice j c.length l]] ?_; (with_reducible refine (Za4.calls g d i _ _ c ac _ ?side1 ?side2 aC.out).mono ?_); (case side1 => exact cP (zC s.out HB.out)); (case side2 => exact x.out); rintro e d3 ⟨rfl, hb⟩; refine ⟨_, rfl, ?_⟩; replace r := mA (zG (rP r.out) hb); replace a := mA (blkB a.out hb); replace HB := mA (Zac (bW) hb); (try clear hb); (try clear hb2); (try clear hk); (try clear hi)) | ((with_reducible refine Zal (f := 39) rfl ?_); refine Zbc (some 67) Tryd.func39 #[.int .i64 A, .int .i64 o] ?_; (with_reducible refine (Zaq.calls A o false _ bj.out).mono ?_); rintro e w' ⟨rfl, ⟨nd, rfl⟩⟩; refine ⟨_, rfl, ?_⟩))
       go_roundg k2
       case measure => have := z.out; have := y.out; omega
       case rel => exact ⟨(O), (wrap64 (o + 1)), (eW), (eW), H', ⟨by have := z.out; have := y.out; omega⟩, ⟨rP r.out⟩, ⟨bP a.out⟩, ⟨bW⟩⟩
      subst aD
      rw [if_pos rfl] at H
      obtain ⟨K, bv, H⟩ := bA H
      obtain ⟨dL, H⟩ := gE H
      obtain ⟨dM, H⟩ := gE H
      obtain ⟨bJ, ao⟩ := nm (rdOf false aa K)
      rw [← ao.out] at H
      by_cases aE : bJ = true; rotate_left
      ·replace aE := Bool.eq_false_iff.mpr aE
       subst aE
       rw [iF] at H
       have H' := mA H
       clear H
       have cd : wr.cell? ⟨b, 0, none⟩ = some (.int .i64 g) := bc a 0
       have ce : wr.cell? ⟨b, 1, none⟩ = some (.int .i64 d) := bc a 1
       have cf : wr.cell? ⟨b, 2, none⟩ = some (.int .i64 i) := bc a 2
       have cg : wr.cell? ⟨b, 3, none⟩ = some (.slice j c.length l) := bc a 3
       have ch := Zaa a.out 0
       have ci := Zaa a.out 1
       have cj := Zaa a.out 2
       have ck := Zaa a.out 3
       go_wp2_with (first | ((with_reducible refine Zal (f := 47) rfl ?_); refine Zbc (some 61) Tryd.func47 #[.agg #[.int .i64 g, .int .i64 d, .int .i64 i, .slice j c.length l]] ?_; (with_reducible refine (Za4.calls g d i _ _ c ac _ ?side1 ?side2 aC.out).mono ?_); (case side1 => exact cP (zC s.out HB.out)); (case side2 => exact x.out); rintro e d4 ⟨rfl, hb⟩; refine ⟨_, rfl, ?_⟩; replace r := mA (zG (rP r.out) hb); replace a := mA (blkB a.out hb); replace HB := mA (Zac (bW) hb); (try clear hb); (try clear hb2); (try clear hk); (try clear hi)) | ((with_reducible refine Zal (f := 39) rfl ?_); refine Zbc (some 67) Tryd.func39 #[.int .i64 A, .int .i64 o] ?_; (with_reducible refine (Zaq.calls A o true _ bj.out).mono ?_); rintro e w' ⟨rfl, ⟨nd, rfl⟩⟩; refine ⟨_, rfl, ?_⟩; obtain ⟨cl, cm, cn, co⟩ := Zbk a.out; obtain ⟨cp, cq, cr, ct⟩ := frz4 a.out) | (go_at_call 86; (with_reducible refine (Zb9.calls g d i _ _ c o K _ ?side1 ?side2 bv.out).mono ?_); (case side1 => exact cP (zC s.out (bW))); (case side2 => exact x.out); rintro e d5 ⟨rfl, hb⟩; replace r := mA (zG (rP r.out) hb); replace a := mA (blkB a.out hb); replace HB := mA (Zac (bW) hb); (try clear hb); (try clear hb2); (try clear hk); (try clear hi); obtain ⟨dV, dW, bK⟩ := zH r.out; subst bK; have T : 0 ≤ (K : Int) := ofD; have U : K < (aa.length : Int) := ofD; obtain ⟨br, ax, ab⟩ := zP (zF r.out).2.2 K T U; (try rw [← ao.out] at ab); cases ax; replace T := eq_true T; replace U := eq_true U))
       go_roundg k2
       case measure => have := z.out; have := y.out; omega
       case rel => exact ⟨(O), (wrap64 (o + 1)), (eW), (eW), H', ⟨by have := z.out; have := y.out; omega⟩, ⟨rP r.out⟩, ⟨bP a.out⟩, ⟨bW⟩⟩
      subst aE
      rw [if_pos rfl] at H
      obtain ⟨bk, dI, H⟩ := bA H
      have H' := mA H
      clear H
      have cu : wr.cell? ⟨b, 0, none⟩ = some (.int .i64 g) := bc a 0
      have cv : wr.cell? ⟨b, 1, none⟩ = some (.int .i64 d) := bc a 1
      have cw : wr.cell? ⟨b, 2, none⟩ = some (.int .i64 i) := bc a 2
      have cx : wr.cell? ⟨b, 3, none⟩ = some (.slice j c.length l) := bc a 3
      have cy := Zaa a.out 0
      have cz := Zaa a.out 1
      have cA := Zaa a.out 2
      have cB := Zaa a.out 3
      go_wp2_with (first | ((with_reducible refine Zal (f := 47) rfl ?_); refine Zbc (some 61) Tryd.func47 #[.agg #[.int .i64 g, .int .i64 d, .int .i64 i, .slice j c.length l]] ?_; (with_reducible refine (Za4.calls g d i _ _ c ac _ ?side1 ?side2 aC.out).mono ?_); (case side1 => exact cP (zC s.out HB.out)); (case side2 => exact x.out); rintro e d6 ⟨rfl, hb⟩; refine ⟨_, rfl, ?_⟩; replace r := mA (zG (rP r.out) hb); replace a := mA (blkB a.out hb); replace HB := mA (Zac (bW) hb); (try clear hb); (try clear hb2); (try clear hk); (try clear hi)) | ((with_reducible refine Zal (f := 39) rfl ?_); refine Zbc (some 67) Tryd.func39 #[.int .i64 A, .int .i64 o] ?_; (with_reducible refine (Zaq.calls A o true _ bj.out).mono ?_); rintro e w' ⟨rfl, ⟨nd, rfl⟩⟩; refine ⟨_, rfl, ?_⟩; obtain ⟨cC, cD, cE, cF⟩ := Zbk a.out; obtain ⟨cG, cH, cI, cJ⟩ := frz4 a.out) | (go_at_call 86; (with_reducible refine (Zb9.calls g d i _ _ c o K _ ?side1 ?side2 bv.out).mono ?_); (case side1 => exact cP (zC s.out (bW))); (case side2 => exact x.out); rintro e d7 ⟨rfl, hb⟩; replace r := mA (zG (rP r.out) hb); replace a := mA (blkB a.out hb); replace HB := mA (Zac (bW) hb); (try clear hb); (try clear hb2); (try clear hk); (try clear hi); obtain ⟨dX, dY, bL⟩ := zH r.out; subst bL; have T : 0 ≤ (K : Int) := ofD; have U : K < (aa.length : Int) := ofD; obtain ⟨br, ax, ab⟩ := zP (zF r.out).2.2 K T U; (try rw [← ao.out] at ab); cases ax; replace T := eq_true T; replace U := eq_true U) | ((with_reducible refine Zal (f := 37) rfl ?_); refine Zbc (some 78) Tryd.func37 #[.int .i64 o] ?_; (with_reducible refine (Zba.calls o bk _ dI.out).mono ?_); rintro e w' ⟨rfl, ⟨nd, rfl⟩⟩; refine ⟨_, rfl, ?_⟩))
      go_roundg k2
      case measure => have := z.out; have := y.out; omega
      case rel => exact ⟨(Go.bits .or .i64 O bk), (wrap64 (o + 1)), (eW), (eW), H', ⟨by have := z.out; have := y.out; omega⟩, ⟨rP r.out⟩, ⟨bP a.out⟩, ⟨bW⟩⟩
   subst c9
   rw [if_pos rfl] at H
   have H' := mA H
   clear H
   go_wp2
   go_loopg [4, 5, 6] k1 (fun kq v4 v5 v6 w' => ∃ (ad : Int) (ae : Bool) (m : Int), v4 = .int .i64 ad ∧ v5 = .bool ae ∧ v6 = .int .i64 m ∧ Zab (Zaj.l1 kq ad ae m g d i c = some (r1, r2)) ∧ Zab (kq ≤ k1) ∧ Zab (w'.heap[b]? = some (.cells #[.int .i64 g, .int .i64 d, .int .i64 i, (.slice j c.length l)] 34 (0, 0))) ∧ Zab (Below w.heap.size w w'))
   case atStart => exact ⟨(A), (false), (0), (eW), (eW), (eW), H', ⟨Nat.le_refl _⟩, ⟨bP a.out⟩, ⟨bW⟩⟩
   case round =>
    clear H'
    obtain ⟨ad, ae, m, rfl, rfl, rfl, HA, y, a, HB⟩ := hrel
    cases gk with
    | zero => exact absurd HA.out (by simp [Zaj.l1])
    | succ k2 =>
     have H := HA.out
     clear HA
     simp only [Zaj.l1] at H
     obtain ⟨ay, bw, H⟩ := bA H
     by_cases aj : m < ay; rotate_left
     ·rw [if_neg aj] at H
      have aF := dF aj
      clear aj
      have H' := mA H
      clear H
      have cK : wr.cell? ⟨b, 0, none⟩ = some (.int .i64 g) := bc a 0
      have cL : wr.cell? ⟨b, 1, none⟩ = some (.int .i64 d) := bc a 1
      have cM : wr.cell? ⟨b, 2, none⟩ = some (.int .i64 i) := bc a 2
      have cN : wr.cell? ⟨b, 3, none⟩ = some (.slice j c.length l) := bc a 3
      have cO := Zaa a.out 0
      have cQ := Zaa a.out 1
      have cR := Zaa a.out 2
      have cS := Zaa a.out 3
      go_wp2_with (first | ((with_reducible refine Zal (f := 47) rfl ?_); refine Zbc (some 21) Tryd.func47 #[.agg #[.int .i64 g, .int .i64 d, .int .i64 i, .slice j c.length l]] ?_; (with_reducible refine (Za4.calls g d i _ _ c ay _ ?side1 ?side2 bw.out).mono ?_); (case side1 => exact cP (zC s.out HB.out)); (case side2 => exact x.out); rintro e d8 ⟨rfl, hb⟩; refine ⟨_, rfl, ?_⟩; replace a := mA (blkB a.out hb); replace HB := mA (Zac (bW) hb); (try clear hb); (try clear hb2); (try clear hk); (try clear hi)))
      go_roundg k2
      case measure => have := z.out; have := y.out; omega
      case rel => exact ⟨(ad), (ae), (eW), (eW), H', ⟨by have := z.out; have := y.out; omega⟩, ⟨bP a.out⟩, ⟨bW⟩⟩
     rw [if_pos aj] at H
     have aF := dT aj
     clear aj
     have H' := mA H
     clear H
     have aS : wr.cell? ⟨b, 0, none⟩ = some (.int .i64 g) := bc a 0
     have aT : wr.cell? ⟨b, 1, none⟩ = some (.int .i64 d) := bc a 1
     have aU : wr.cell? ⟨b, 2, none⟩ = some (.int .i64 i) := bc a 2
     have aV : wr.cell? ⟨b, 3, none⟩ = some (.slice j c.length l) := bc a 3
     have aW := Zaa a.out 0
     have aX := Zaa a.out 1
     have aY := Zaa a.out 2
     have aZ := Zaa a.out 3
     go_wp2_with (first | ((with_reducible refine Zal (f := 47) rfl ?_); refine Zbc (some 21) Tryd.func47 #[.agg #[.int .i64 g, .int .i64 d, .int .i64 i, .slice j c.length l]] ?_; (with_reducible refine (Za4.calls g d i _ _ c ay _ ?side1 ?side2 bw.out).mono ?_); (case side1 => exact cP (zC s.out HB.out)); (case side2 => exact x.out); rintro e d9 ⟨rfl, hb⟩; refine ⟨_, rfl, ?_⟩; replace a := mA (blkB a.out hb); replace HB := mA (Zac (bW) hb); (try clear hb); (try clear hb2); (try clear hk); (try clear hi)))
     go_loopg [4, 5, 7] k2 (fun kq v4 v5 v7 w' => ∃ (B : Int) (W : Bool) (n : Int), v4 = .int .i64 B ∧ v5 = .bool W ∧ v7 = .int .i64 n ∧ Zab (Zaj.l2 kq B W m n g d i c = some (r1, r2)) ∧ Zab (kq ≤ k2) ∧ Zab (w'.heap[b]? = some (.cells #[.int .i64 g, .int .i64 d, .int .i64 i, (.slice j c.length l)] 34 (0, 0))) ∧ Zab (Below w.heap.size w w'))
     case atStart => exact ⟨(ad), (ae), (0), (eW), (eW), (eW), H', ⟨Nat.le_refl _⟩, ⟨bP a.out⟩, ⟨bW⟩⟩
     case round =>
      clear H' aF aS aT aU aV aW aX aY aZ
      obtain ⟨B, W, n, rfl, rfl, rfl, HA, P, a, HB⟩ := hrel
      cases gk with
      | zero => exact absurd HA.out (by simp [Zaj.l2])
      | succ k3 =>
       have H := HA.out
       clear HA
       simp only [Zaj.l2] at H
       have az := mA H
       clear H
       go_upto_region 11 with (fail)
       go_cut [33] (fun v33 wc => ∃ (kq : Nat) (Y : Bool), v33 = .bool Y ∧ Zab (Zaj.j3 kq B W m n Y g d i c = some (r1, r2)) ∧ Zab (kq ≤ k3) ∧ Zab (wc.heap[b]? = some (.cells #[.int .i64 g, .int .i64 d, .int .i64 i, (.slice j c.length l)] 34 (0, 0))) ∧ Zab (Below w.heap.size w wc))
       case first =>
        have H := az.out
        clear az
        by_cases ak : n < g; rotate_left
        ·rw [if_neg ak] at H
         have Z := dF ak
         clear ak
         (first | rw [Z] | (simp only [Zci, i32_w]; rw [Z]) | skip)
         have H' := mA H
         clear H
         have cT : wr.cell? ⟨b, 0, none⟩ = some (.int .i64 g) := bc a 0
         have cU : wr.cell? ⟨b, 1, none⟩ = some (.int .i64 d) := bc a 1
         have cV : wr.cell? ⟨b, 2, none⟩ = some (.int .i64 i) := bc a 2
         have cW : wr.cell? ⟨b, 3, none⟩ = some (.slice j c.length l) := bc a 3
         have cX := Zaa a.out 0
         have cY := Zaa a.out 1
         have cZ := Zaa a.out 2
         have c0 := Zaa a.out 3
         go_wp2
         go_meet
         case rel => exact ⟨_, (false), (eW), H', ⟨by have := z.out; have := y.out; have := P.out; first | omega | exact Nat.le_refl _⟩, ⟨bP a.out⟩, ⟨bW⟩⟩
        rw [if_pos ak] at H
        have Z := dT ak
        clear ak
        (first | rw [Z] | (simp only [Zci, i32_w]; rw [Z]) | skip)
        obtain ⟨bl, dJ, H⟩ := bA H
        have H' := mA H
        clear H
        have c1 : wr.cell? ⟨b, 0, none⟩ = some (.int .i64 g) := bc a 0
        have da : wr.cell? ⟨b, 1, none⟩ = some (.int .i64 d) := bc a 1
        have db : wr.cell? ⟨b, 2, none⟩ = some (.int .i64 i) := bc a 2
        have dc : wr.cell? ⟨b, 3, none⟩ = some (.slice j c.length l) := bc a 3
        have dd := Zaa a.out 0
        have de := Zaa a.out 1
        have df := Zaa a.out 2
        have dg := Zaa a.out 3
        go_wp2_with (first | (go_at_call 39; (with_reducible refine (Zaq.calls B m bl _ dJ.out).mono ?_); rintro e w' ⟨rfl, ⟨nd, rfl⟩⟩))
        go_meet
        case rel => exact ⟨_, (bl), (eW), H', ⟨by have := z.out; have := y.out; have := P.out; first | omega | exact Nat.le_refl _⟩, ⟨bP a.out⟩, ⟨bW⟩⟩
       case rest =>
        clear az
        obtain ⟨kq, Y, rfl, HA, L, a, HB⟩ := hcut
        cases kq with
        | zero => exact absurd HA.out (by simp [Zaj.j3])
        | succ ap =>
         have H := HA.out
         clear HA
         simp only [Zaj.j3] at H
         by_cases aG : Y = true; rotate_left
         ·replace aG := Bool.eq_false_iff.mpr aG
          subst aG
          rw [iF] at H
          have H' := mA H
          clear H
          go_wp2
          go_roundg ap
          case measure => have := z.out; have := y.out; have := P.out; have := L.out; omega
          case rel => exact ⟨(B), (W), (wrap64 (m + 1)), (eW), (eW), (eW), H', ⟨by have := z.out; have := y.out; have := P.out; have := L.out; omega⟩, ⟨bP a.out⟩, ⟨bW⟩⟩
         subst aG
         rw [if_pos rfl] at H
         obtain ⟨dN, H⟩ := gE H
         obtain ⟨dO, H⟩ := gE H
         obtain ⟨dP, H⟩ := gE H
         obtain ⟨dQ, H⟩ := gE H
         by_cases al : (rd (Zae c m) n) ≥ 0; rotate_left
         ·rw [if_neg al] at H
          have bs : decide (0 ≤ (rd (Zae c m) n)) = false := dF al
          clear al
          have H' := mA H
          clear H
          have dh : wc.cell? ⟨b, 0, none⟩ = some (.int .i64 g) := bc a 0
          have di : wc.cell? ⟨b, 1, none⟩ = some (.int .i64 d) := bc a 1
          have dj : wc.cell? ⟨b, 2, none⟩ = some (.int .i64 i) := bc a 2
          have dk : wc.cell? ⟨b, 3, none⟩ = some (.slice j c.length l) := bc a 3
          have dl := Zaa a.out 0
          have dm := Zaa a.out 1
          have dn := Zaa a.out 2
          have dp := Zaa a.out 3
          have D : 0 ≤ (m : Int) := ofD
          have E : m < (c.length : Int) := ofD
          obtain ⟨aH, aq, ar, af, p, u, v⟩ := at_L1 s.out m D E
          cases af
          replace p := (HB.out.cell (wB w p)).trans p
          have J := mA v
          have am := mA u
          clear v u
          replace D := eq_true D
          replace E := eq_true E
          have G : 0 ≤ (n : Int) := ofD
          have I : n < ((Zae c m).length : Int) := ofD
          obtain ⟨aI, ag, q⟩ := zK J.out n G I
          cases ag
          replace q := (HB.out.cell (wB w q)).trans q
          replace G := eq_true G
          replace I := eq_true I
          go_wp2
          go_roundg ap
          case measure => have := z.out; have := y.out; have := P.out; have := L.out; omega
          case rel => exact ⟨(B), (W), (wrap64 (n + 1)), (eW), (eW), (eW), H', ⟨by have := z.out; have := y.out; have := P.out; have := L.out; omega⟩, ⟨bP a.out⟩, ⟨bW⟩⟩
         rw [if_pos al] at H
         have bs : decide (0 ≤ (rd (Zae c m) n)) = true := dT al
         clear al
         obtain ⟨bM, bx, H⟩ := bA H
         by_cases aJ : bM = true
         ·subst aJ
          rw [if_pos rfl] at H
          have H' := mA H
          clear H
          have dq : wc.cell? ⟨b, 0, none⟩ = some (.int .i64 g) := bc a 0
          have dr : wc.cell? ⟨b, 1, none⟩ = some (.int .i64 d) := bc a 1
          have ds : wc.cell? ⟨b, 2, none⟩ = some (.int .i64 i) := bc a 2
          have dt : wc.cell? ⟨b, 3, none⟩ = some (.slice j c.length l) := bc a 3
          have du := Zaa a.out 0
          have dv := Zaa a.out 1
          have dw := Zaa a.out 2
          have dx := Zaa a.out 3
          have D : 0 ≤ (m : Int) := ofD
          have E : m < (c.length : Int) := ofD
          obtain ⟨aH, aq, ar, af, p, u, v⟩ := at_L1 s.out m D E
          cases af
          replace p := (HB.out.cell (wB w p)).trans p
          have J := mA v
          have am := mA u
          clear v u
          replace D := eq_true D
          replace E := eq_true E
          have G : 0 ≤ (n : Int) := ofD
          have I : n < ((Zae c m).length : Int) := ofD
          obtain ⟨aI, ag, q⟩ := zK J.out n G I
          cases ag
          replace q := (HB.out.cell (wB w q)).trans q
          replace G := eq_true G
          replace I := eq_true I
          go_wp2_with (first | (go_at_call 39; (with_reducible refine (Zaq.calls B (rd (Zae c m) n) true _ bx.out).mono ?_); rintro e w' ⟨rfl, ⟨nd, rfl⟩⟩))
          go_roundg ap
          case measure => have := z.out; have := y.out; have := P.out; have := L.out; omega
          case rel => exact ⟨(B), (W), (wrap64 (n + 1)), (eW), (eW), (eW), H', ⟨by have := z.out; have := y.out; have := P.out; have := L.out; omega⟩, ⟨bP a.out⟩, ⟨bW⟩⟩
         replace aJ := Bool.eq_false_iff.mpr aJ
         subst aJ
         rw [iF] at H
         obtain ⟨bm, dK, H⟩ := bA H
         have H' := mA H
         clear H
         have dy : wc.cell? ⟨b, 0, none⟩ = some (.int .i64 g) := bc a 0
         have dz : wc.cell? ⟨b, 1, none⟩ = some (.int .i64 d) := bc a 1
         have dA : wc.cell? ⟨b, 2, none⟩ = some (.int .i64 i) := bc a 2
         have dB : wc.cell? ⟨b, 3, none⟩ = some (.slice j c.length l) := bc a 3
         have dC := Zaa a.out 0
         have dD := Zaa a.out 1
         have dE := Zaa a.out 2
         have dG := Zaa a.out 3
         have D : 0 ≤ (m : Int) := ofD
         have E : m < (c.length : Int) := ofD
         obtain ⟨aH, aq, ar, af, p, u, v⟩ := at_L1 s.out m D E
         cases af
         replace p := (HB.out.cell (wB w p)).trans p
         have J := mA v
         have am := mA u
         clear v u
         replace D := eq_true D
         replace E := eq_true E
         have G : 0 ≤ (n : Int) := ofD
         have I : n < ((Zae c m).length : Int) := ofD
         obtain ⟨aI, ag, q⟩ := zK J.out n G I
         cases ag
         replace q := (HB.out.cell (wB w q)).trans q
         replace G := eq_true G
         replace I := eq_true I
         go_wp2_with (first | (go_at_call 39; (with_reducible refine (Zaq.calls B (rd (Zae c m) n) false _ bx.out).mono ?_); rintro e w' ⟨rfl, ⟨nd, rfl⟩⟩) | ((with_reducible refine Zal (f := 37) rfl ?_); refine Zbc (some 54) Tryd.func37 #[.int .i64 (rd (Zae c m) n)] ?_; (with_reducible refine (Zba.calls (rd (Zae c m) n) bm _ dK.out).mono ?_); rintro e w' ⟨rfl, ⟨nd, rfl⟩⟩; refine ⟨_, rfl, ?_⟩))
         go_roundg ap
         case measure => have := z.out; have := y.out; have := P.out; have := L.out; omega
         case rel => exact ⟨(Go.bits .or .i64 B bm), (true), (wrap64 (n + 1)), (eW), (eW), (eW), H', ⟨by have := z.out; have := y.out; have := P.out; have := L.out; omega⟩, ⟨bP a.out⟩, ⟨bW⟩⟩
end Go.Proofs.YtlmicipfikammaaDoor.P
end
