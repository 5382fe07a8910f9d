import Derived.Test.YtlmicipfikammaaDoorCFnExactLoopFault2
set_option maxHeartbeats 8000000
set_option maxRecDepth 100000
section
namespace Go.Proofs.YtlmicipfikammaaDoor.P
open Go.RowKit Go.Proofs.YtlmicipfikammaaDoor.Sh Go.Proofs.YtlmicipfikammaaDoorW.PrintWords Go.Proofs.YtlmicipfikammaaDoorW.PrintLast Go.Proofs.YtlmicipfikammaaDoorW.PrintMore
open Kd
attribute [local go_sem] Zb8 Zcb Zcm Zcl Zb4 Zb3 Zb7 Zcd   -- for this text's walks alone
set_option linter.unusedVariables false
set_option linter.unusedSimpArgs false
mutual
def Za5.j0 : Nat → Int → Bool → Int → Int → Int → List (List Int) → Option (Bool)
 | 0, _, _, _, _, _, _ => none
 | k + 1, x3, e, a, b, c, d => if e = true then (some false) else (Za5.l0 k x3 0 a b c d)
def Za5.l0 : Nat → Int → Int → Int → Int → Int → List (List Int) → Option (Bool)
 | 0, _, _, _, _, _, _ => none
 | k + 1, x3, x4, b, c, d, a => if x4 < x3 then (if 0 ≤ x4 then (if x4 < (a.length : Int) then (if ((Zae a x4).length : Int) = b then (Za5.l1 k x3 x4 0 b c d a) else (some false)) else (none)) else (none)) else (some true)
def Za5.l1 : Nat → Int → Int → Int → Int → Int → Int → List (List Int) → Option (Bool)
 | 0, _, _, _, _, _, _, _ => none
 | k + 1, x3, x4, x5, b, c, d, a => if x5 < b then (if 0 ≤ x4 then (if x4 < (a.length : Int) then (if 0 ≤ x5 then (if x5 < ((Zae a x4).length : Int) then ((Zap.f (rd (Zae a x4) x5) (-1) (wrap64 (x3 - 1))).bind fun e => (if e = true then (Za5.l1 k x3 x4 (wrap64 (x5 + 1)) b c d a) else (some false))) else (none)) else (none)) else (none)) else (none)) else (Za5.l0 k x3 (wrap64 (x4 + 1)) b c d a)
end
def Za5.f (k : Nat) (b : Int) (c : Int) (d : Int) (e : List (List Int)) : Option (Bool) := (Za4.f b c d e).bind fun a => ((Zap.f b 0 8).bind fun g => (if g = true then ((Zap.f a 1 16).bind fun h => (if h = true then ((Zap.f c 0 (wrap64 (a - 1))).bind fun i => (if i = true then ((Zbt.f a).bind fun j => ((Zap.f d 0 j).bind fun l => (Za5.j0 k a (!l) b c d e))) else (Za5.j0 k a true b c d e))) else (Za5.j0 k a true b c d e))) else (Za5.j0 k a true b c d e)))
theorem Za5.calls (k : Nat) (d : Int) (j : Int) (l : Int) (q : Option Addr) (n : Nat) (c : List (List Int)) (r : Bool) (w : World) (ap : Kd.C (Kd.slice 2 (Kd.int .i64)) w q c.length c) (aq : c.length ≤ n) (h : Za5.f k d j l c = some r) :
  Calls Tryd.prog 53 #[.agg #[.int .i64 d, .int .i64 j, .int .i64 l, .slice q c.length n]] w fun e w' => e = .returned (.bool r) ∧ Below w.heap.size w w' := by
 have cf := Tryd.underlying34
 have z := mA ap
 have aj := mA aq
 clear ap aq
 have HB := mA (Below.refl w.heap.size w)
 unfold Za5.f at h
 have H := h
 clear h
 obtain ⟨g, A2, H⟩ := bA H
 have aP := mA H
 clear H
 go_enter Tryd.func53, Tryd.ntmps53
 go_upto_region 2 with (first | ((with_reducible refine Zan (N := 1) rfl ?_); refine boxS (N := 1) (cs := #[.int .i64 d, .int .i64 j, .int .i64 l, .slice q c.length n]) (t := 34) ?_; intro b hg w4 hbox hb; have a := mA (hbox); have ar := geW (w := w) hg; have au := geW (w := w) hg; replace HB := mA (Zac (bW) hb); clear hb hbox hg; obtain ⟨O, P, T, U⟩ := Zbk a.out; obtain ⟨W, X, Y, Z⟩ := frz4 a.out) | (go_at_call 47; (with_reducible refine (Za4.calls d j l _ _ c g _ ?side1 ?side2 A2.out).mono ?_); (case side1 => exact cP (zC z.out HB.out)); (case side2 => exact aj.out); rintro e w6 ⟨rfl, hb⟩; replace a := mA (blkB a.out hb); replace HB := mA (Zac (bW) hb); (try clear hb); (try clear hb2); (try clear hk); (try clear hi)))
 repeat (go_quiet (first | ((with_reducible refine Zan (N := 1) rfl ?_); refine boxS (N := 1) (cs := #[.int .i64 d, .int .i64 j, .int .i64 l, .slice q c.length n]) (t := 34) ?_; intro b hg w4 hbox hb; have a := mA (hbox); have ar := geW (w := w) hg; have au := geW (w := w) hg; replace HB := mA (Zac (bW) hb); clear hb hbox hg; obtain ⟨O, P, T, U⟩ := Zbk a.out; obtain ⟨W, X, Y, Z⟩ := frz4 a.out) | (go_at_call 47; (with_reducible refine (Za4.calls d j l _ _ c g _ ?side1 ?side2 A2.out).mono ?_); (case side1 => exact cP (zC z.out HB.out)); (case side2 => exact aj.out); rintro e w6 ⟨rfl, hb⟩; replace a := mA (blkB a.out hb); replace HB := mA (Zac (bW) hb); (try clear hb); (try clear hb2); (try clear hk); (try clear hi))); go_upto_region 2 with (first | ((with_reducible refine Zan (N := 1) rfl ?_); refine boxS (N := 1) (cs := #[.int .i64 d, .int .i64 j, .int .i64 l, .slice q c.length n]) (t := 34) ?_; intro b hg w4 hbox hb; have a := mA (hbox); have ar := geW (w := w) hg; have au := geW (w := w) hg; replace HB := mA (Zac (bW) hb); clear hb hbox hg; obtain ⟨O, P, T, U⟩ := Zbk a.out; obtain ⟨W, X, Y, Z⟩ := frz4 a.out) | (go_at_call 47; (with_reducible refine (Za4.calls d j l _ _ c g _ ?side1 ?side2 A2.out).mono ?_); (case side1 => exact cP (zC z.out HB.out)); (case side2 => exact aj.out); rintro e w6 ⟨rfl, hb⟩; replace a := mA (blkB a.out hb); replace HB := mA (Zac (bW) hb); (try clear hb); (try clear hb2); (try clear hk); (try clear hi))))
 (try simp only [Act.put, List.setIfInBounds_toArray, List.set_cons_zero, List.set_cons_succ])
 go_cut [32] (fun v32 wc => ∃ (kq : Nat) (M : Bool), v32 = .bool M ∧ Zab (Za5.j0 kq g M d j l c = some r) ∧ Zab (kq ≤ k) ∧ Zab (wc.heap[b]? = some (.cells #[.int .i64 d, .int .i64 j, .int .i64 l, (.slice q c.length n)] 34 (0, 0))) ∧ Zab (Below w.heap.size w wc))
 case first =>
  have H := aP.out
  clear aP
  obtain ⟨aY, A7, H⟩ := bA H
  by_cases c8 : aY = true; rotate_left
  ·replace c8 := Bool.eq_false_iff.mpr c8
   subst c8
   rw [iF] at H
   have H' := mA H
   clear H
   have a2 : w6.cell? ⟨b, 0, none⟩ = some (.int .i64 d) := bc a 0
   have a3 : w6.cell? ⟨b, 1, none⟩ = some (.int .i64 j) := bc a 1
   have a4 : w6.cell? ⟨b, 2, none⟩ = some (.int .i64 l) := bc a 2
   have a5 : w6.cell? ⟨b, 3, none⟩ = some (.slice q c.length n) := bc a 3
   have a6 := Zaa a.out 0
   have a7 := Zaa a.out 1
   have a8 := Zaa a.out 2
   have a9 := Zaa a.out 3
   go_wp2_with (first | (go_at_call 54; (with_reducible refine (Zap.calls d 0 8 false _ A7.out).mono ?_); rintro e w' ⟨rfl, ⟨nd, rfl⟩⟩; (try first | exact dwD | exact dwE)))
   repeat (go_quiet (first | (go_at_call 54; (with_reducible refine (Zap.calls d 0 8 false _ A7.out).mono ?_); rintro e w' ⟨rfl, ⟨nd, rfl⟩⟩; (try first | exact dwD | exact dwE))); try go_wp2_with (first | (go_at_call 54; (with_reducible refine (Zap.calls d 0 8 false _ A7.out).mono ?_); rintro e w' ⟨rfl, ⟨nd, rfl⟩⟩; (try first | exact dwD | exact dwE))))
   go_meet
   case rel => exact ⟨_, (true), (eW), H', ⟨by first | omega | exact Nat.le_refl _⟩, ⟨bP a.out⟩, ⟨bW⟩⟩
  subst c8
  rw [if_pos rfl] at H
  obtain ⟨aZ, A9, H⟩ := bA H
  by_cases c10 : aZ = true; rotate_left
  ·replace c10 := Bool.eq_false_iff.mpr c10
   subst c10
   rw [iF] at H
   have H' := mA H
   clear H
   have ba : w6.cell? ⟨b, 0, none⟩ = some (.int .i64 d) := bc a 0
   have bb : w6.cell? ⟨b, 1, none⟩ = some (.int .i64 j) := bc a 1
   have bd : w6.cell? ⟨b, 2, none⟩ = some (.int .i64 l) := bc a 2
   have bf : w6.cell? ⟨b, 3, none⟩ = some (.slice q c.length n) := bc a 3
   have bg := Zaa a.out 0
   have bh := Zaa a.out 1
   have bi := Zaa a.out 2
   have bj := Zaa a.out 3
   go_wp2_with (first | (go_at_call 54; (with_reducible refine (Zap.calls d 0 8 true _ A7.out).mono ?_); rintro e w' ⟨rfl, ⟨nd, rfl⟩⟩; (try first | exact dwD | exact dwE)) | (go_at_call 54; (with_reducible refine (Zap.calls g 1 16 false _ A9.out).mono ?_); rintro e w' ⟨rfl, ⟨nd, rfl⟩⟩; (try first | exact dwD | exact dwE)))
   repeat (go_quiet (first | (go_at_call 54; (with_reducible refine (Zap.calls d 0 8 true _ A7.out).mono ?_); rintro e w' ⟨rfl, ⟨nd, rfl⟩⟩; (try first | exact dwD | exact dwE)) | (go_at_call 54; (with_reducible refine (Zap.calls g 1 16 false _ A9.out).mono ?_); rintro e w' ⟨rfl, ⟨nd, rfl⟩⟩; (try first | exact dwD | exact dwE))); try go_wp2_with (first | (go_at_call 54; (with_reducible refine (Zap.calls d 0 8 true _ A7.out).mono ?_); rintro e w' ⟨rfl, ⟨nd, rfl⟩⟩; (try first | exact dwD | exact dwE)) | (go_at_call 54; (with_reducible refine (Zap.calls g 1 16 false _ A9.out).mono ?_); rintro e w' ⟨rfl, ⟨nd, rfl⟩⟩; (try first | exact dwD | exact dwE))))
   go_meet
   case rel => exact ⟨_, (true), (eW), H', ⟨by first | omega | exact Nat.le_refl _⟩, ⟨bP a.out⟩, ⟨bW⟩⟩
  subst c10
  rw [if_pos rfl] at H
  obtain ⟨a0, af, H⟩ := bA H
  by_cases av : a0 = true; rotate_left
  ·replace av := Bool.eq_false_iff.mpr av
   subst av
   rw [iF] at H
   have H' := mA H
   clear H
   have bk : w6.cell? ⟨b, 0, none⟩ = some (.int .i64 d) := bc a 0
   have bl : w6.cell? ⟨b, 1, none⟩ = some (.int .i64 j) := bc a 1
   have bm : w6.cell? ⟨b, 2, none⟩ = some (.int .i64 l) := bc a 2
   have bn : w6.cell? ⟨b, 3, none⟩ = some (.slice q c.length n) := bc a 3
   have bo := Zaa a.out 0
   have bp := Zaa a.out 1
   have bq := Zaa a.out 2
   have br := Zaa a.out 3
   go_wp2_with (first | (go_at_call 54; (with_reducible refine (Zap.calls d 0 8 true _ A7.out).mono ?_); rintro e w' ⟨rfl, ⟨nd, rfl⟩⟩; (try first | exact dwD | exact dwE)) | (go_at_call 54; (with_reducible refine (Zap.calls g 1 16 true _ A9.out).mono ?_); rintro e w' ⟨rfl, ⟨nd, rfl⟩⟩; (try first | exact dwD | exact dwE)) | (go_at_call 54; (with_reducible refine (Zap.calls j 0 (wrap64 (g - 1)) false _ af.out).mono ?_); rintro e w' ⟨rfl, ⟨nd, rfl⟩⟩; (try first | exact dwD | exact dwE)))
   repeat (go_quiet (first | (go_at_call 54; (with_reducible refine (Zap.calls d 0 8 true _ A7.out).mono ?_); rintro e w' ⟨rfl, ⟨nd, rfl⟩⟩; (try first | exact dwD | exact dwE)) | (go_at_call 54; (with_reducible refine (Zap.calls g 1 16 true _ A9.out).mono ?_); rintro e w' ⟨rfl, ⟨nd, rfl⟩⟩; (try first | exact dwD | exact dwE)) | (go_at_call 54; (with_reducible refine (Zap.calls j 0 (wrap64 (g - 1)) false _ af.out).mono ?_); rintro e w' ⟨rfl, ⟨nd, rfl⟩⟩; (try first | exact dwD | exact dwE))); try go_wp2_with (first | (go_at_call 54; (with_reducible refine (Zap.calls d 0 8 true _ A7.out).mono ?_); rintro e w' ⟨rfl, ⟨nd, rfl⟩⟩; (try first | exact dwD | exact dwE)) | (go_at_call 54; (with_reducible refine (Zap.calls g 1 16 true _ A9.out).mono ?_); rintro e w' ⟨rfl, ⟨nd, rfl⟩⟩; (try first | exact dwD | exact dwE)) | (go_at_call 54; (with_reducible refine (Zap.calls j 0 (wrap64 (g - 1)) false _ af.out).mono ?_); rintro e w' ⟨rfl, ⟨nd, rfl⟩⟩; (try first | exact dwD | exact dwE))))
   go_meet
   case rel => exact ⟨_, (true), (eW), H', ⟨by first | omega | exact Nat.le_refl _⟩, ⟨bP a.out⟩, ⟨bW⟩⟩
  subst av
  rw [if_pos rfl] at H
  obtain ⟨K, aQ, H⟩ := bA H
  obtain ⟨ak, aR, H⟩ := bA H
  have H' := mA H
  clear H
  have bs : w6.cell? ⟨b, 0, none⟩ = some (.int .i64 d) := bc a 0
  have bu : w6.cell? ⟨b, 1, none⟩ = some (.int .i64 j) := bc a 1
  have bv : w6.cell? ⟨b, 2, none⟩ = some (.int .i64 l) := bc a 2
  have bw : w6.cell? ⟨b, 3, none⟩ = some (.slice q c.length n) := bc a 3
  have bx := Zaa a.out 0
  have bz := Zaa a.out 1
  have bB := Zaa a.out 2
  have bC := Zaa a.out 3
  go_wp2_with (first | (go_at_call 54; (with_reducible refine (Zap.calls d 0 8 true _ A7.out).mono ?_); rintro e w' ⟨rfl, ⟨nd, rfl⟩⟩; (try first | exact dwD | exact dwE)) | (go_at_call 54; (with_reducible refine (Zap.calls g 1 16 true _ A9.out).mono ?_); rintro e w' ⟨rfl, ⟨nd, rfl⟩⟩; (try first | exact dwD | exact dwE)) | (go_at_call 54; (with_reducible refine (Zap.calls j 0 (wrap64 (g - 1)) true _ af.out).mono ?_); rintro e w' ⟨rfl, ⟨nd, rfl⟩⟩; (try first | exact dwD | exact dwE)) | (go_at_call 38; (with_reducible refine (Zbt.calls g K _ aQ.out).mono ?_); rintro e w' ⟨rfl, ⟨nd, rfl⟩⟩; (try first | exact dwD | exact dwE)) | (go_at_call 54; (with_reducible refine (Zap.calls l 0 K ak _ aR.out).mono ?_); rintro e w' ⟨rfl, ⟨nd, rfl⟩⟩; (try first | exact dwD | exact dwE)))
  repeat (go_quiet (first | (go_at_call 54; (with_reducible refine (Zap.calls d 0 8 true _ A7.out).mono ?_); rintro e w' ⟨rfl, ⟨nd, rfl⟩⟩; (try first | exact dwD | exact dwE)) | (go_at_call 54; (with_reducible refine (Zap.calls g 1 16 true _ A9.out).mono ?_); rintro e w' ⟨rfl, ⟨nd, rfl⟩⟩; (try first | exact dwD | exact dwE)) | (go_at_call 54; (with_reducible refine (Zap.calls j 0 (wrap64 (g - 1)) true _ af.out).mono ?_); rintro e w' ⟨rfl, ⟨nd, rfl⟩⟩; (try first | exact dwD | exact dwE)) | (go_at_call 38; (with_reducible refine (Zbt.calls g K _ aQ.out).mono ?_); rintro e w' ⟨rfl, ⟨nd, rfl⟩⟩; (try first | exact dwD | exact dwE)) | (go_at_call 54; (with_reducible refine (Zap.calls l 0 K ak _ aR.out).mono ?_); rintro e w' ⟨rfl, ⟨nd, rfl⟩⟩; (try first | exact dwD | exact dwE))); try go_wp2_with (first | (go_at_call 54; (with_reducible refine (Zap.calls d 0 8 true _ A7.out).mono ?_); rintro e w' ⟨rfl, ⟨nd, rfl⟩⟩; (try first | exact dwD | exact dwE)) | (go_at_call 54; (with_reducible refine (Zap.calls g 1 16 true _ A9.out).mono ?_); rintro e w' ⟨rfl, ⟨nd, rfl⟩⟩; (try first | exact dwD | exact dwE)) | (go_at_call 54; (with_reducible refine (Zap.calls j 0 (wrap64 (g - 1)) true _ af.out).mono ?_); rintro e w' ⟨rfl, ⟨nd, rfl⟩⟩; (try first | exact dwD | exact dwE)) | (go_at_call 38; (with_reducible refine (Zbt.calls g K _ aQ.out).mono ?_); rintro e w' ⟨rfl, ⟨nd, rfl⟩⟩; (try first | exact dwD | exact dwE)) | (go_at_call 54; (with_reducible refine (Zap.calls l 0 K ak _ aR.out).mono ?_); rintro e w' ⟨rfl, ⟨nd, rfl⟩⟩; (try first | exact dwD | exact dwE))))
  go_meet
  case rel => exact ⟨_, (!ak), (eW), H', ⟨by first | omega | exact Nat.le_refl _⟩, ⟨bP a.out⟩, ⟨bW⟩⟩
 case rest =>
  clear aP O P T U W X Y Z
  obtain ⟨kq, M, rfl, HA, aw, a, HB⟩ := hcut
  cases kq with
  | zero => exact absurd HA.out (by simp [Za5.j0])
  | succ aX =>
   have H := HA.out
   clear HA
   simp only [Za5.j0] at H
   by_cases ax : M = true
   ·subst ax
    rw [if_pos rfl] at H
    obtain rfl := oI H
    go_wp2
    repeat (go_quiet (fail); try go_wp2)
    go_ret
    exact ⟨eW, bW⟩
   replace ax := Bool.eq_false_iff.mpr ax
   subst ax
   rw [iF] at H
   have H' := mA H
   clear H
   go_wp2
   repeat (go_quiet (fail); try go_wp2)
   go_loopg [4] aX (fun kq v4 w' => ∃ (i : Int), v4 = .int .i64 i ∧ Zab (Za5.l0 kq g i d j l c = some r) ∧ Zab (kq ≤ aX) ∧ Zab (w'.heap[b]? = some (.cells #[.int .i64 d, .int .i64 j, .int .i64 l, (.slice q c.length n)] 34 (0, 0))) ∧ Zab (Below w.heap.size w w'))
   case atStart => exact ⟨(0), (eW), H', ⟨Nat.le_refl _⟩, ⟨bP a.out⟩, ⟨bW⟩⟩
   case round =>
    clear H'
    obtain ⟨i, rfl, HA, ay, a, HB⟩ := hrel
    cases gk with
    | zero => exact absurd HA.out (by simp [Za5.l0])
    | succ k2 =>
     have H := HA.out
     clear HA
     simp only [Za5.l0] at H
     by_cases ag : i < g; rotate_left
     ·rw [if_neg ag] at H
      have az := dF ag
      clear ag
      obtain rfl := oI H
      go_wp2
      repeat (go_quiet (fail); try go_wp2)
      go_ret
      exact ⟨eW, bW⟩
     rw [if_pos ag] at H
     have az := dT ag
     clear ag
     obtain ⟨aT, H⟩ := gE H
     obtain ⟨aU, H⟩ := gE H
     by_cases aa : ((Zae c i).length : Int) = d; rotate_left
     ·rw [if_neg aa] at H
      have aA : (((Zae c i).length : Int) == d) = false := beq_eq_false_iff_ne.mpr aa
      have aB : (((Zae c i).length : Int) != d) = true := bne_iff_ne.mpr aa
      obtain rfl := oI H
      have bD : wr.cell? ⟨b, 0, none⟩ = some (.int .i64 d) := bc a 0
      have bE : wr.cell? ⟨b, 1, none⟩ = some (.int .i64 j) := bc a 1
      have bF : wr.cell? ⟨b, 2, none⟩ = some (.int .i64 l) := bc a 2
      have bG : wr.cell? ⟨b, 3, none⟩ = some (.slice q c.length n) := bc a 3
      have bH := Zaa a.out 0
      have bI := Zaa a.out 1
      have bJ := Zaa a.out 2
      have bK := Zaa a.out 3
      have B : 0 ≤ (i : Int) := ofD
      have D : i < (c.length : Int) := ofD
      obtain ⟨A, ab, ac, am, m, u, v⟩ := at_L1 z.out i B D
      cases am
      replace m := (HB.out.cell (wB w m)).trans m
      have aE := mA v
      have aF := mA u
      clear v u
      replace B := eq_true B
      replace D := eq_true D
      go_wp2
      repeat (go_quiet (fail); try go_wp2)
      go_ret
      exact ⟨eW, bW⟩
     rw [if_pos aa] at H
     have aA : (((Zae c i).length : Int) == d) = true := beq_iff_eq.mpr aa
     have aB : (((Zae c i).length : Int) != d) = false := bne_eq_false_iff_eq.mpr aa
     clear aa
     have H' := mA H
     clear H
     have aG : wr.cell? ⟨b, 0, none⟩ = some (.int .i64 d) := bc a 0
     have aH : wr.cell? ⟨b, 1, none⟩ = some (.int .i64 j) := bc a 1
     have aI : wr.cell? ⟨b, 2, none⟩ = some (.int .i64 l) := bc a 2
     have aJ : wr.cell? ⟨b, 3, none⟩ = some (.slice q c.length n) := bc a 3
     have aK := Zaa a.out 0
     have aL := Zaa a.out 1
     have aM := Zaa a.out 2
     have aN := Zaa a.out 3
     have B : 0 ≤ (i : Int) := ofD
     have D : i < (c.length : Int) := ofD
     obtain ⟨A, ab, ac, am, m, u, v⟩ := at_L1 z.out i B D
     cases am
     replace m := (HB.out.cell (wB w m)).trans m
     have aE := mA v
     have aF := mA u
     clear v u
     replace B := eq_true B
     replace D := eq_true D
     go_wp2
     repeat (go_quiet (fail); try go_wp2)
     go_loopg [5] k2 (fun kq v5 w' => ∃ (o : Int), v5 = .int .i64 o ∧ Zab (Za5.l1 kq g i o d j l c = some r) ∧ Zab (kq ≤ k2) ∧ Zab (w'.heap[b]? = some (.cells #[.int .i64 d, .int .i64 j, .int .i64 l, (.slice (some A) c.length n)] 34 (0, 0))) ∧ Zab (Below w.heap.size w w'))
     case atStart => exact ⟨(0), (eW), H', ⟨Nat.le_refl _⟩, ⟨bP a.out⟩, ⟨bW⟩⟩
     case round =>
      clear H' az aT aU aA aB aG aH aI aJ aK aL aM aN m B D
      obtain ⟨o, rfl, HA, aC, a, HB⟩ := hrel
      cases gk with
      | zero => exact absurd HA.out (by simp [Za5.l1])
      | succ k3 =>
       have H := HA.out
       clear HA
       simp only [Za5.l1] at H
       by_cases ah : o < d; rotate_left
       ·rw [if_neg ah] at H
        have aV := dF ah
        clear ah
        have H' := mA H
        clear H
        have bL : wr.cell? ⟨b, 0, none⟩ = some (.int .i64 d) := bc a 0
        have bM : wr.cell? ⟨b, 1, none⟩ = some (.int .i64 j) := bc a 1
        have bN : wr.cell? ⟨b, 2, none⟩ = some (.int .i64 l) := bc a 2
        have bO : wr.cell? ⟨b, 3, none⟩ = some (.slice (some A) c.length n) := bc a 3
        have bQ := Zaa a.out 0
        have bR := Zaa a.out 1
        have bS := Zaa a.out 2
        have bT := Zaa a.out 3
        go_wp2
        repeat (go_quiet (fail); try go_wp2)
        go_roundg k3
        case measure => have := aw.out; have := ay.out; have := aC.out; omega
        case rel => exact ⟨(wrap64 (i + 1)), (eW), H', ⟨by have := aw.out; have := ay.out; have := aC.out; omega⟩, ⟨bP a.out⟩, ⟨bW⟩⟩
       rw [if_pos ah] at H
       have aV := dT ah
       clear ah
       obtain ⟨cb, H⟩ := gE H
       obtain ⟨cc, H⟩ := gE H
       obtain ⟨cd, H⟩ := gE H
       obtain ⟨ce, H⟩ := gE H
       obtain ⟨a1, ai, H⟩ := bA H
       by_cases aD : a1 = true; rotate_left
       ·replace aD := Bool.eq_false_iff.mpr aD
        subst aD
        rw [iF] at H
        obtain rfl := oI H
        have bU : wr.cell? ⟨b, 0, none⟩ = some (.int .i64 d) := bc a 0
        have bV : wr.cell? ⟨b, 1, none⟩ = some (.int .i64 j) := bc a 1
        have bX : wr.cell? ⟨b, 2, none⟩ = some (.int .i64 l) := bc a 2
        have bY : wr.cell? ⟨b, 3, none⟩ = some (.slice (some A) c.length n) := bc a 3
        have bZ := Zaa a.out 0
        have b0 := Zaa a.out 1
        have b1 := Zaa a.out 2
        have b2 := Zaa a.out 3
        have E : 0 ≤ (i : Int) := ofD
        have G : i < (c.length : Int) := ofD
        obtain ⟨al, ad, ae, an, p, x, y⟩ := at_L1 z.out i E G
        obtain rfl : A = al := (by injection an)
        (try (have aS : ad = ab ∧ ae = ac := (by have e_ := p.symm.trans m; simpa using e_)))
        replace p := (HB.out.cell (wB w p)).trans p
        have L := mA y
        have aO := mA x
        clear y x
        replace E := eq_true E
        replace G := eq_true G
        have I : 0 ≤ (o : Int) := ofD
        have J : o < ((Zae c i).length : Int) := ofD
        obtain ⟨aW, ao, s⟩ := zK L.out o I J
        cases ao
        replace s := (HB.out.cell (wB w s)).trans s
        replace I := eq_true I
        replace J := eq_true J
        go_wp2_with (first | (go_at_call 54; (with_reducible refine (Zap.calls (rd (Zae c i) o) (-1) (wrap64 (g - 1)) false _ ai.out).mono ?_); rintro e w' ⟨rfl, ⟨nd, rfl⟩⟩; (try first | exact dwD | exact dwE)))
        repeat (go_quiet (first | (go_at_call 54; (with_reducible refine (Zap.calls (rd (Zae c i) o) (-1) (wrap64 (g - 1)) false _ ai.out).mono ?_); rintro e w' ⟨rfl, ⟨nd, rfl⟩⟩; (try first | exact dwD | exact dwE))); try go_wp2_with (first | (go_at_call 54; (with_reducible refine (Zap.calls (rd (Zae c i) o) (-1) (wrap64 (g - 1)) false _ ai.out).mono ?_); rintro e w' ⟨rfl, ⟨nd, rfl⟩⟩; (try first | exact dwD | exact dwE))))
        go_ret
        exact ⟨eW, bW⟩
       subst aD
       rw [if_pos rfl] at H
       have H' := mA H
       clear H
       have b3 : wr.cell? ⟨b, 0, none⟩ = some (.int .i64 d) := bc a 0
       have b4 : wr.cell? ⟨b, 1, none⟩ = some (.int .i64 j) := bc a 1
       have b5 : wr.cell? ⟨b, 2, none⟩ = some (.int .i64 l) := bc a 2
       have b6 : wr.cell? ⟨b, 3, none⟩ = some (.slice (some A) c.length n) := bc a 3
       have b7 := Zaa a.out 0
       have b8 := Zaa a.out 1
       have b9 := Zaa a.out 2
       have ca := Zaa a.out 3
       have E : 0 ≤ (i : Int) := ofD
       have G : i < (c.length : Int) := ofD
       obtain ⟨al, ad, ae, an, p, x, y⟩ := at_L1 z.out i E G
       obtain rfl : A = al := (by injection an)
       (try (have aS : ad = ab ∧ ae = ac := (by have e_ := p.symm.trans m; simpa using e_)))
       replace p := (HB.out.cell (wB w p)).trans p
       have L := mA y
       have aO := mA x
       clear y x
       replace E := eq_true E
       replace G := eq_true G
       have I : 0 ≤ (o : Int) := ofD
       have J : o < ((Zae c i).length : Int) := ofD
       obtain ⟨aW, ao, s⟩ := zK L.out o I J
       cases ao
       replace s := (HB.out.cell (wB w s)).trans s
       replace I := eq_true I
       replace J := eq_true J
       go_wp2_with (first | (go_at_call 54; (with_reducible refine (Zap.calls (rd (Zae c i) o) (-1) (wrap64 (g - 1)) true _ ai.out).mono ?_); rintro e w' ⟨rfl, ⟨nd, rfl⟩⟩; (try first | exact dwD | exact dwE)))
       repeat (go_quiet (first | (go_at_call 54; (with_reducible refine (Zap.calls (rd (Zae c i) o) (-1) (wrap64 (g - 1)) true _ ai.out).mono ?_); rintro e w' ⟨rfl, ⟨nd, rfl⟩⟩; (try first | exact dwD | exact dwE))); try go_wp2_with (first | (go_at_call 54; (with_reducible refine (Zap.calls (rd (Zae c i) o) (-1) (wrap64 (g - 1)) true _ ai.out).mono ?_); rintro e w' ⟨rfl, ⟨nd, rfl⟩⟩; (try first | exact dwD | exact dwE))))
       go_roundg k3
       case measure => have := aw.out; have := ay.out; have := aC.out; omega
       case rel => exact ⟨(wrap64 (o + 1)), (eW), H', ⟨by have := aw.out; have := ay.out; have := aC.out; omega⟩, ⟨bP a.out⟩, ⟨bW⟩⟩
def Zaq.f (a0 : Int) (a1 : Int) : Option (Bool) := if 0 ≤ (IntKind.u64.wrap (a1)) then (some ((Go.bits .and .i64 (shr .i64 a0 (IntKind.u64.wrap (a1))) 1) == 1)) else (none)
theorem Zaq.calls (a0 : Int) (a1 : Int) (r : Bool) (w : World) (h : Zaq.f a0 a1 = some r) :
  Calls Tryd.prog 39 #[.int .i64 a0, .int .i64 a1] w fun e w' => e = .returned (.bool r) ∧ Zas w w' := by
 unfold Zaq.f at h
 have H := h
 clear h
 obtain ⟨a, c⟩ : ∃ j_ : Int, (IntKind.u64.wrap (a1)) = j_ := ⟨_, rfl⟩
 replace H : (if 0 ≤ (a) then (some ((Go.bits .and .i64 (shr .i64 a0 (a)) 1) == 1)) else (none)) = some r := by first | (rw [c] at H; exact H) | (simp only [c] at H ⊢; exact H)
 by_cases c4 : 0 ≤ (a); rotate_left
 ·rw [if_neg c4] at H
  exact absurd H (by simp)
 rw [if_pos c4] at H
 have j := eq_true c4
 have k := dT c4
 clear c4
 obtain ⟨d, b⟩ : ∃ j_ : Int, (shr .i64 a0 (a)) = j_ := ⟨_, rfl⟩
 replace H : (some ((Go.bits .and .i64 (d) 1) == 1)) = some r := by first | (rw [b] at H; exact H) | (simp only [b] at H ⊢; exact H)
 have g : (a0 / 2 ^ min (a).toNat 64) = d := b
 have i : (a) ≤ 64 → (a0 / 2 ^ (a).toNat) = d := shr_small b
 obtain rfl := oI H
 go_enter Tryd.func39, Tryd.ntmps39
 go_wp2
 go_ret
 exact ⟨by first | rfl | (simp; done) | (simp only [← c, ← b] <;> (first | rfl | simp)) | (simp [*]; done), by repeat (first | exact Zas.refl _ | apply Zas.step)⟩
def Zbo.l0 : Nat → Int → List Int → Int → Option (Bool)
 | 0, _, _, _ => none
 | k + 1, x0, x1, x5 => if x5 < (x1.length : Int) then (if 0 ≤ x5 then ((Zbt.f x0).bind fun a => ((Zap.f (rd x1 x5) 0 a).bind fun b => (if b = true then (Zbo.l0 k x0 x1 (wrap64 (x5 + 1))) else (some false)))) else (none)) else (some true)
def Zbo.f (k : Nat) (a0 : Int) (l1 : List Int) : Option (Bool) := Zbo.l0 k a0 l1 0
theorem Zbo.calls (k : Nat) (a0 : Int) (A1 : Option Addr) (c1 : Nat) (l1 : List Int) (r : Bool) (w : World) (l : Kd.C (Kd.int .i64) w A1 l1.length l1) (m : l1.length ≤ c1) (h : Zbo.f k a0 l1 = some r) :
  Calls Tryd.prog 118 #[.int .i64 a0, .slice A1 l1.length c1] w fun e w' => e = .returned (.bool r) ∧ Zas w w' := by
 have n := mA l
 have s := mA m
 clear l m
 unfold Zbo.f at h
 have H := h
 clear h
 have H' := mA H
 clear H
 go_enter Tryd.func118, Tryd.ntmps118
 go_wp2
 repeat (go_quiet (fail); try go_wp2)
 go_loopg [5] k (fun kq v5 w' => ∃ (a : Int), v5 = .int .i64 a ∧ Zab (Zbo.l0 kq a0 l1 a = some r) ∧ Zab (kq ≤ k) ∧ Zas w w')
 case atStart => exact ⟨(0), (eW), H', ⟨Nat.le_refl _⟩, by repeat (first | exact Zas.refl _ | apply Zas.step)⟩
 case round =>
  clear H'
  try clear c1
  try clear p2
  obtain ⟨a, rfl, HA, HK1, ⟨m1, rfl⟩⟩ := hrel
  cases gk with
  | zero => exact absurd HA.out (by simp [Zbo.l0])
  | succ k1 =>
   have H := HA.out
   clear HA
   simp only [Zbo.l0] at H
   by_cases c3 : a < (l1.length : Int); rotate_left
   ·rw [if_neg c3] at H
    have o := dF c3
    clear c3
    obtain rfl := oI H
    go_wp2
    repeat (go_quiet (fail); try go_wp2)
    go_ret
    exact ⟨eW, by repeat (first | exact Zas.refl _ | apply Zas.step)⟩
   rw [if_pos c3] at H
   have o := dT c3
   clear c3
   obtain ⟨q, H⟩ := gE H
   obtain ⟨b, A5, H⟩ := bA H
   obtain ⟨p, A6, H⟩ := bA H
   by_cases c7 : p = true; rotate_left
   ·replace c7 := Bool.eq_false_iff.mpr c7
    subst c7
    rw [iF] at H
    obtain rfl := oI H
    have c : 0 ≤ (a : Int) := ofD
    have d : a < (l1.length : Int) := ofD
    obtain ⟨j, g, i⟩ := zK n.out a c d
    cases g
    replace c := eq_true c
    replace d := eq_true d
    go_wp2_with (first | (go_at_call 38; (with_reducible refine (Zbt.calls a0 b _ A5.out).mono ?_); rintro e w' ⟨rfl, ⟨nd, rfl⟩⟩; (try first | exact dwD | exact dwE)) | (go_at_call 54; (with_reducible refine (Zap.calls (rd l1 a) 0 b false _ A6.out).mono ?_); rintro e w' ⟨rfl, ⟨nd, rfl⟩⟩; (try first | exact dwD | exact dwE)))
    repeat (go_quiet (first | (go_at_call 38; (with_reducible refine (Zbt.calls a0 b _ A5.out).mono ?_); rintro e w' ⟨rfl, ⟨nd, rfl⟩⟩; (try first | exact dwD | exact dwE)) | (go_at_call 54; (with_reducible refine (Zap.calls (rd l1 a) 0 b false _ A6.out).mono ?_); rintro e w' ⟨rfl, ⟨nd, rfl⟩⟩; (try first | exact dwD | exact dwE))); try go_wp2_with (first | (go_at_call 38; (with_reducible refine (Zbt.calls a0 b _ A5.out).mono ?_); rintro e w' ⟨rfl, ⟨nd, rfl⟩⟩; (try first | exact dwD | exact dwE)) | (go_at_call 54; (with_reducible refine (Zap.calls (rd l1 a) 0 b false _ A6.out).mono ?_); rintro e w' ⟨rfl, ⟨nd, rfl⟩⟩; (try first | exact dwD | exact dwE))))
    go_ret
    exact ⟨eW, by repeat (first | exact Zas.refl _ | apply Zas.step)⟩
   subst c7
   rw [if_pos rfl] at H
   have H' := mA H
   clear H
   have c : 0 ≤ (a : Int) := ofD
   have d : a < (l1.length : Int) := ofD
   obtain ⟨j, g, i⟩ := zK n.out a c d
   cases g
   replace c := eq_true c
   replace d := eq_true d
   go_wp2_with (first | (go_at_call 38; (with_reducible refine (Zbt.calls a0 b _ A5.out).mono ?_); rintro e w' ⟨rfl, ⟨nd, rfl⟩⟩; (try first | exact dwD | exact dwE)) | (go_at_call 54; (with_reducible refine (Zap.calls (rd l1 a) 0 b true _ A6.out).mono ?_); rintro e w' ⟨rfl, ⟨nd, rfl⟩⟩; (try first | exact dwD | exact dwE)))
   repeat (go_quiet (first | (go_at_call 38; (with_reducible refine (Zbt.calls a0 b _ A5.out).mono ?_); rintro e w' ⟨rfl, ⟨nd, rfl⟩⟩; (try first | exact dwD | exact dwE)) | (go_at_call 54; (with_reducible refine (Zap.calls (rd l1 a) 0 b true _ A6.out).mono ?_); rintro e w' ⟨rfl, ⟨nd, rfl⟩⟩; (try first | exact dwD | exact dwE))); try go_wp2_with (first | (go_at_call 38; (with_reducible refine (Zbt.calls a0 b _ A5.out).mono ?_); rintro e w' ⟨rfl, ⟨nd, rfl⟩⟩; (try first | exact dwD | exact dwE)) | (go_at_call 54; (with_reducible refine (Zap.calls (rd l1 a) 0 b true _ A6.out).mono ?_); rintro e w' ⟨rfl, ⟨nd, rfl⟩⟩; (try first | exact dwD | exact dwE))))
   go_roundg k1
   case measure => have := HK1.out; omega
   case rel => exact ⟨(wrap64 (a + 1)), (eW), H', ⟨by have := HK1.out; omega⟩, by repeat (first | exact Zas.refl _ | apply Zas.step)⟩
mutual
def Za8.j0 : Nat → Bool → Int → List Int → Option (Bool)
 | 0, _, _, _ => none
 | k + 1, c, a, b => if c = true then (some false) else (Za8.l0 k 0 a b)
def Za8.l0 : Nat → Int → Int → List Int → Option (Bool)
 | 0, _, _, _ => none
 | k + 1, x3, b, a => if x3 < b then (if 0 ≤ x3 then (if x3 < (a.length : Int) then ((Zaq.f (rd a x3) x3).bind fun c => (if c = true then (Za8.l1 k x3 0 b a) else (some false))) else (none)) else (none)) else (some true)
def Za8.l1 : Nat → Int → Int → Int → List Int → Option (Bool)
 | 0, _, _, _, _ => none
 | k + 1, x3, x4, b, a => if x4 < b then (if 0 ≤ x3 then (if x3 < (a.length : Int) then ((Zaq.f (rd a x3) x4).bind fun c => (if 0 ≤ x4 then (if x4 < (a.length : Int) then ((Zaq.f (rd a x4) x3).bind fun d => (if (c != d) = true then (some false) else (Za8.l1 k x3 (wrap64 (x4 + 1)) b a))) else (none)) else (none))) else (none)) else (none)) else (Za8.l0 k (wrap64 (x3 + 1)) b a)
end
def Za8.f (k : Nat) (a : Int) (b : List Int) : Option (Bool) := (Zap.f a 0 8).bind fun c => (if c = true then (if (b.length : Int) = a then ((Zbo.f k a b).bind fun d => (Za8.j0 k (!d) a b)) else (Za8.j0 k true a b)) else (Za8.j0 k true a b))
theorem Za8.calls (k : Nat) (g : Int) (x : Option Addr) (n : Nat) (b : List Int) (r : Bool) (w : World) (Z : Kd.C (Kd.int .i64) w x b.length b) (aa : b.length ≤ n) (h : Za8.f k g b = some r) :
  Calls Tryd.prog 70 #[.agg #[.int .i64 g, .slice x b.length n]] w fun e w' => e = .returned (.bool r) ∧ Below w.heap.size w w' := by
 have bb := Tryd.underlying32
 have o := mA Z
 have T := mA aa
 clear Z aa
 have HB := mA (Below.refl w.heap.size w)
 unfold Za8.f at h
 have H := h
 clear h
 have an := mA H
 clear H
 go_enter Tryd.func70, Tryd.ntmps70
 go_upto_region 1 with (first | ((with_reducible refine Zan (N := 1) rfl ?_); (try (refine gate_guard (by rfl) ?_; dsimp only)); refine boxS (N := 1) (cs := #[.int .i64 g, .slice x b.length n]) (t := 32) ?_; intro j hg w3 hbox hb; have a := mA (hbox); have ab := geW (w := w) hg; have ac := geW (w := w) hg; replace HB := mA (Zac (bW) hb); clear hb hbox hg))
 repeat (go_quiet (first | ((with_reducible refine Zan (N := 1) rfl ?_); (try (refine gate_guard (by rfl) ?_; dsimp only)); refine boxS (N := 1) (cs := #[.int .i64 g, .slice x b.length n]) (t := 32) ?_; intro j hg w3 hbox hb; have a := mA (hbox); have ab := geW (w := w) hg; have ac := geW (w := w) hg; replace HB := mA (Zac (bW) hb); clear hb hbox hg)); go_upto_region 1 with (first | ((with_reducible refine Zan (N := 1) rfl ?_); (try (refine gate_guard (by rfl) ?_; dsimp only)); refine boxS (N := 1) (cs := #[.int .i64 g, .slice x b.length n]) (t := 32) ?_; intro j hg w3 hbox hb; have a := mA (hbox); have ab := geW (w := w) hg; have ac := geW (w := w) hg; replace HB := mA (Zac (bW) hb); clear hb hbox hg)))
 (try simp only [Act.put, List.setIfInBounds_toArray, List.set_cons_zero, List.set_cons_succ])
 go_cut [24] (fun v24 wc => ∃ (kq : Nat) (I : Bool), v24 = .bool I ∧ Zab (Za8.j0 kq I g b = some r) ∧ Zab (kq ≤ k) ∧ Zab (wc.heap[j]? = some (.cells #[.int .i64 g, (.slice x b.length n)] 32 (0, 0))) ∧ Zab (Below w.heap.size w wc))
 case first =>
  have H := an.out
  clear an
  obtain ⟨ax, A4, H⟩ := bA H
  by_cases c5 : ax = true; rotate_left
  ·replace c5 := Bool.eq_false_iff.mpr c5
   subst c5
   rw [iF] at H
   have H' := mA H
   clear H
   have aA : w3.cell? ⟨j, 0, none⟩ = some (.int .i64 g) := bc a 0
   have aB : w3.cell? ⟨j, 1, none⟩ = some (.slice x b.length n) := bc a 1
   have aC := Zaa a.out 0
   have aD := Zaa a.out 1
   go_wp2_with (first | (go_at_call 54; (with_reducible refine (Zap.calls g 0 8 false _ A4.out).mono ?_); rintro e w' ⟨rfl, ⟨nd, rfl⟩⟩; (try first | exact dwD | exact dwE)))
   repeat (go_quiet (first | (go_at_call 54; (with_reducible refine (Zap.calls g 0 8 false _ A4.out).mono ?_); rintro e w' ⟨rfl, ⟨nd, rfl⟩⟩; (try first | exact dwD | exact dwE))); try go_wp2_with (first | (go_at_call 54; (with_reducible refine (Zap.calls g 0 8 false _ A4.out).mono ?_); rintro e w' ⟨rfl, ⟨nd, rfl⟩⟩; (try first | exact dwD | exact dwE))))
   go_meet
   case rel => exact ⟨_, (true), (eW), H', ⟨by first | omega | exact Nat.le_refl _⟩, ⟨bP a.out⟩, ⟨bW⟩⟩
  subst c5
  rw [if_pos rfl] at H
  by_cases c6 : (b.length : Int) = g; rotate_left
  ·rw [if_neg c6] at H
   have J : ((b.length : Int) == g) = false := beq_eq_false_iff_ne.mpr c6
   have ay : ((b.length : Int) != g) = true := bne_iff_ne.mpr c6
   (first | rw [J] | (simp only [Zci, i32_w]; rw [J]) | skip)
   have H' := mA H
   clear H
   have aY : w3.cell? ⟨j, 0, none⟩ = some (.int .i64 g) := bc a 0
   have aZ : w3.cell? ⟨j, 1, none⟩ = some (.slice x b.length n) := bc a 1
   have a0 := Zaa a.out 0
   have a1 := Zaa a.out 1
   go_wp2_with (first | (go_at_call 54; (with_reducible refine (Zap.calls g 0 8 true _ A4.out).mono ?_); rintro e w' ⟨rfl, ⟨nd, rfl⟩⟩; (try first | exact dwD | exact dwE)))
   repeat (go_quiet (first | (go_at_call 54; (with_reducible refine (Zap.calls g 0 8 true _ A4.out).mono ?_); rintro e w' ⟨rfl, ⟨nd, rfl⟩⟩; (try first | exact dwD | exact dwE))); try go_wp2_with (first | (go_at_call 54; (with_reducible refine (Zap.calls g 0 8 true _ A4.out).mono ?_); rintro e w' ⟨rfl, ⟨nd, rfl⟩⟩; (try first | exact dwD | exact dwE))))
   go_meet
   case rel => exact ⟨_, (true), (eW), H', ⟨by first | omega | exact Nat.le_refl _⟩, ⟨bP a.out⟩, ⟨bW⟩⟩
  rw [if_pos c6] at H
  have J : ((b.length : Int) == g) = true := beq_iff_eq.mpr c6
  have ay : ((b.length : Int) != g) = false := bne_eq_false_iff_eq.mpr c6
  clear c6
  (first | rw [J] | (simp only [Zci, i32_w]; rw [J]) | skip)
  obtain ⟨U, A7, H⟩ := bA H
  have H' := mA H
  clear H
  have a2 : w3.cell? ⟨j, 0, none⟩ = some (.int .i64 g) := bc a 0
  have a3 : w3.cell? ⟨j, 1, none⟩ = some (.slice x b.length n) := bc a 1
  have a4 := Zaa a.out 0
  have a5 := Zaa a.out 1
  go_wp2_with (first | (go_at_call 54; (with_reducible refine (Zap.calls g 0 8 true _ A4.out).mono ?_); rintro e w' ⟨rfl, ⟨nd, rfl⟩⟩; (try first | exact dwD | exact dwE)) | (go_at_call 118; (with_reducible refine (Zbo.calls k g _ _ b U _ ?side1 ?side2 A7.out).mono ?_); (case side1 => exact cP (zC o.out (bW))); (case side2 => exact T.out); rintro e w' ⟨rfl, ⟨nd, rfl⟩⟩; (try first | exact dwD | exact dwE)))
  repeat (go_quiet (first | (go_at_call 54; (with_reducible refine (Zap.calls g 0 8 true _ A4.out).mono ?_); rintro e w' ⟨rfl, ⟨nd, rfl⟩⟩; (try first | exact dwD | exact dwE)) | (go_at_call 118; (with_reducible refine (Zbo.calls k g _ _ b U _ ?side1 ?side2 A7.out).mono ?_); (case side1 => exact cP (zC o.out (bW))); (case side2 => exact T.out); rintro e w' ⟨rfl, ⟨nd, rfl⟩⟩; (try first | exact dwD | exact dwE))); try go_wp2_with (first | (go_at_call 54; (with_reducible refine (Zap.calls g 0 8 true _ A4.out).mono ?_); rintro e w' ⟨rfl, ⟨nd, rfl⟩⟩; (try first | exact dwD | exact dwE)) | (go_at_call 118; (with_reducible refine (Zbo.calls k g _ _ b U _ ?side1 ?side2 A7.out).mono ?_); (case side1 => exact cP (zC o.out (bW))); (case side2 => exact T.out); rintro e w' ⟨rfl, ⟨nd, rfl⟩⟩; (try first | exact dwD | exact dwE))))
  go_meet
  case rel => exact ⟨_, (!U), (eW), H', ⟨by first | omega | exact Nat.le_refl _⟩, ⟨bP a.out⟩, ⟨bW⟩⟩
 case rest =>
  clear an
  obtain ⟨kq, I, rfl, HA, ad, a, HB⟩ := hcut
  cases kq with
  | zero => exact absurd HA.out (by simp [Za8.j0])
  | succ aw =>
   have H := HA.out
   clear HA
   simp only [Za8.j0] at H
   by_cases ae : I = true
   ·subst ae
    rw [if_pos rfl] at H
    obtain rfl := oI H
    go_wp2
    repeat (go_quiet (fail); try go_wp2)
    go_ret
    exact ⟨eW, bW⟩
   replace ae := Bool.eq_false_iff.mpr ae
   subst ae
   rw [iF] at H
   have H' := mA H
   clear H
   go_wp2
   repeat (go_quiet (fail); try go_wp2)
   go_loopg [3] aw (fun kq v3 w' => ∃ (c : Int), v3 = .int .i64 c ∧ Zab (Za8.l0 kq c g b = some r) ∧ Zab (kq ≤ aw) ∧ Zab (w'.heap[j]? = some (.cells #[.int .i64 g, (.slice x b.length n)] 32 (0, 0))) ∧ Zab (Below w.heap.size w w'))
   case atStart => exact ⟨(0), (eW), H', ⟨Nat.le_refl _⟩, ⟨bP a.out⟩, ⟨bW⟩⟩
   case round =>
    clear H'
    obtain ⟨c, rfl, HA, af, a, HB⟩ := hrel
    cases gk with
    | zero => exact absurd HA.out (by simp [Za8.l0])
    | succ k2 =>
     have H := HA.out
     clear HA
     simp only [Za8.l0] at H
     by_cases K : c < g; rotate_left
     ·rw [if_neg K] at H
      have ag := dF K
      clear K
      obtain rfl := oI H
      have aE : wr.cell? ⟨j, 0, none⟩ = some (.int .i64 g) := bc a 0
      have aF : wr.cell? ⟨j, 1, none⟩ = some (.slice x b.length n) := bc a 1
      have aG := Zaa a.out 0
      have aH := Zaa a.out 1
      go_wp2
      repeat (go_quiet (fail); try go_wp2)
      go_ret
      exact ⟨eW, bW⟩
     rw [if_pos K] at H
     have ag := dT K
     clear K
     obtain ⟨ao, H⟩ := gE H
     obtain ⟨ap, H⟩ := gE H
     obtain ⟨az, L, H⟩ := bA H
     by_cases ah : az = true; rotate_left
     ·replace ah := Bool.eq_false_iff.mpr ah
      subst ah
      rw [iF] at H
      obtain rfl := oI H
      have aI : wr.cell? ⟨j, 0, none⟩ = some (.int .i64 g) := bc a 0
      have aJ : wr.cell? ⟨j, 1, none⟩ = some (.slice x b.length n) := bc a 1
      have aK := Zaa a.out 0
      have aL := Zaa a.out 1
      have A : 0 ≤ (c : Int) := ofD
      have B : c < (b.length : Int) := ofD
      obtain ⟨p, X, q⟩ := zK o.out c A B
      cases X
      replace q := (HB.out.cell (wB w q)).trans q
      replace A := eq_true A
      replace B := eq_true B
      go_wp2_with (first | (go_at_call 39; (with_reducible refine (Zaq.calls (rd b c) c false _ L.out).mono ?_); rintro e w' ⟨rfl, ⟨nd, rfl⟩⟩; (try first | exact dwD | exact dwE)))
      repeat (go_quiet (first | (go_at_call 39; (with_reducible refine (Zaq.calls (rd b c) c false _ L.out).mono ?_); rintro e w' ⟨rfl, ⟨nd, rfl⟩⟩; (try first | exact dwD | exact dwE))); try go_wp2_with (first | (go_at_call 39; (with_reducible refine (Zaq.calls (rd b c) c false _ L.out).mono ?_); rintro e w' ⟨rfl, ⟨nd, rfl⟩⟩; (try first | exact dwD | exact dwE))))
      go_ret
      exact ⟨eW, bW⟩
     subst ah
     rw [if_pos rfl] at H
     have H' := mA H
     clear H
     have aj : wr.cell? ⟨j, 0, none⟩ = some (.int .i64 g) := bc a 0
     have ak : wr.cell? ⟨j, 1, none⟩ = some (.slice x b.length n) := bc a 1
     have al := Zaa a.out 0
     have am := Zaa a.out 1
     have A : 0 ≤ (c : Int) := ofD
     have B : c < (b.length : Int) := ofD
     obtain ⟨p, X, q⟩ := zK o.out c A B
     cases X
     replace q := (HB.out.cell (wB w q)).trans q
     replace A := eq_true A
     replace B := eq_true B
     go_wp2_with (first | (go_at_call 39; (with_reducible refine (Zaq.calls (rd b c) c true _ L.out).mono ?_); rintro e w' ⟨rfl, ⟨nd, rfl⟩⟩; (try first | exact dwD | exact dwE)))
     repeat (go_quiet (first | (go_at_call 39; (with_reducible refine (Zaq.calls (rd b c) c true _ L.out).mono ?_); rintro e w' ⟨rfl, ⟨nd, rfl⟩⟩; (try first | exact dwD | exact dwE))); try go_wp2_with (first | (go_at_call 39; (with_reducible refine (Zaq.calls (rd b c) c true _ L.out).mono ?_); rintro e w' ⟨rfl, ⟨nd, rfl⟩⟩; (try first | exact dwD | exact dwE))))
     go_loopg [4] k2 (fun kq v4 w' => ∃ (i : Int), v4 = .int .i64 i ∧ Zab (Za8.l1 kq c i g b = some r) ∧ Zab (kq ≤ k2) ∧ Zab (w'.heap[j]? = some (.cells #[.int .i64 g, (.slice (some p) b.length n)] 32 (0, 0))) ∧ Zab (Below w.heap.size w w'))
     case atStart => exact ⟨(0), (eW), H', ⟨Nat.le_refl _⟩, ⟨bP a.out⟩, ⟨bW⟩⟩
     case round =>
      clear H' ag ao ap aj ak al am q A B
      obtain ⟨i, rfl, HA, ai, a, HB⟩ := hrel
      cases gk with
      | zero => exact absurd HA.out (by simp [Za8.l1])
      | succ k3 =>
       have H := HA.out
       clear HA
       simp only [Za8.l1] at H
       by_cases M : i < g; rotate_left
       ·rw [if_neg M] at H
        have aq := dF M
        clear M
        have H' := mA H
        clear H
        have aM : wr.cell? ⟨j, 0, none⟩ = some (.int .i64 g) := bc a 0
        have aN : wr.cell? ⟨j, 1, none⟩ = some (.slice (some p) b.length n) := bc a 1
        have aO := Zaa a.out 0
        have aP := Zaa a.out 1
        go_wp2
        repeat (go_quiet (fail); try go_wp2)
        go_roundg k3
        case measure => have := ad.out; have := af.out; have := ai.out; omega
        case rel => exact ⟨(wrap64 (c + 1)), (eW), H', ⟨by have := ad.out; have := af.out; have := ai.out; omega⟩, ⟨bP a.out⟩, ⟨bW⟩⟩
       rw [if_pos M] at H
       have aq := dT M
       clear M
       obtain ⟨a6, H⟩ := gE H
       obtain ⟨a7, H⟩ := gE H
       obtain ⟨s, O, H⟩ := bA H
       obtain ⟨a8, H⟩ := gE H
       obtain ⟨a9, H⟩ := gE H
       obtain ⟨u, P, H⟩ := bA H
       by_cases D : (s != u) = true
       ·rw [if_pos D] at H
        have ar : (s != u) = true := D
        (try (have au : decide (s = u) = false := by simpa using D))
        (try (have av : (s == u) = false := by simpa using D))
        (try (have ba : ¬ (s = u) := by simpa using D))
        clear D
        obtain rfl := oI H
        have aQ : wr.cell? ⟨j, 0, none⟩ = some (.int .i64 g) := bc a 0
        have aR : wr.cell? ⟨j, 1, none⟩ = some (.slice (some p) b.length n) := bc a 1
        have aS := Zaa a.out 0
        have aT := Zaa a.out 1
        have E : 0 ≤ (c : Int) := ofD
        have G : c < (b.length : Int) := ofD
        obtain ⟨W, Y, y⟩ := zK o.out c E G
        obtain rfl : p = W := (by injection Y)
        replace y := (HB.out.cell (wB w y)).trans y
        replace E := eq_true E
        replace G := eq_true G
        go_wp2_with (first | (go_at_call 39; (with_reducible refine (Zaq.calls (rd b c) i s _ O.out).mono ?_); rintro e w' ⟨rfl, ⟨nd, rfl⟩⟩; (try first | exact dwD | exact dwE); have l : 0 ≤ (i : Int) := ofD; have m : i < (b.length : Int) := ofD; obtain ⟨v, z, d⟩ := zK o.out i l m; obtain rfl : p = v := (by injection z); replace d := (HB.out.cell (wB w d)).trans d; replace l := eq_true l; replace m := eq_true m) | (go_at_call 39; (with_reducible refine (Zaq.calls (rd b i) c u _ P.out).mono ?_); rintro e w' ⟨rfl, ⟨nd, rfl⟩⟩; (try first | exact dwD | exact dwE)))
        repeat (go_quiet (first | (go_at_call 39; (with_reducible refine (Zaq.calls (rd b c) i s _ O.out).mono ?_); rintro e w' ⟨rfl, ⟨nd, rfl⟩⟩; (try first | exact dwD | exact dwE); have l : 0 ≤ (i : Int) := ofD; have m : i < (b.length : Int) := ofD; obtain ⟨v, z, d⟩ := zK o.out i l m; obtain rfl : p = v := (by injection z); replace d := (HB.out.cell (wB w d)).trans d; replace l := eq_true l; replace m := eq_true m) | (go_at_call 39; (with_reducible refine (Zaq.calls (rd b i) c u _ P.out).mono ?_); rintro e w' ⟨rfl, ⟨nd, rfl⟩⟩; (try first | exact dwD | exact dwE))); try go_wp2_with (first | (go_at_call 39; (with_reducible refine (Zaq.calls (rd b c) i s _ O.out).mono ?_); rintro e w' ⟨rfl, ⟨nd, rfl⟩⟩; (try first | exact dwD | exact dwE); have l : 0 ≤ (i : Int) := ofD; have m : i < (b.length : Int) := ofD; obtain ⟨v, z, d⟩ := zK o.out i l m; obtain rfl : p = v := (by injection z); replace d := (HB.out.cell (wB w d)).trans d; replace l := eq_true l; replace m := eq_true m) | (go_at_call 39; (with_reducible refine (Zaq.calls (rd b i) c u _ P.out).mono ?_); rintro e w' ⟨rfl, ⟨nd, rfl⟩⟩; (try first | exact dwD | exact dwE))))
        go_ret
        exact ⟨eW, bW⟩
       rw [if_neg D] at H
       have ar : (s != u) = false := by simpa using D
       (try (have au : decide (s = u) = true := by simpa using D))
       (try (have av : (s == u) = true := by simpa using D))
       clear D
       have H' := mA H
       clear H
       have aU : wr.cell? ⟨j, 0, none⟩ = some (.int .i64 g) := bc a 0
       have aV : wr.cell? ⟨j, 1, none⟩ = some (.slice (some p) b.length n) := bc a 1
       have aW := Zaa a.out 0
       have aX := Zaa a.out 1
       have E : 0 ≤ (c : Int) := ofD
       have G : c < (b.length : Int) := ofD
       obtain ⟨W, Y, y⟩ := zK o.out c E G
       obtain rfl : p = W := (by injection Y)
       replace y := (HB.out.cell (wB w y)).trans y
       replace E := eq_true E
       replace G := eq_true G
       go_wp2_with (first | (go_at_call 39; (with_reducible refine (Zaq.calls (rd b c) i s _ O.out).mono ?_); rintro e w' ⟨rfl, ⟨nd, rfl⟩⟩; (try first | exact dwD | exact dwE); have l : 0 ≤ (i : Int) := ofD; have m : i < (b.length : Int) := ofD; obtain ⟨v, z, d⟩ := zK o.out i l m; obtain rfl : p = v := (by injection z); replace d := (HB.out.cell (wB w d)).trans d; replace l := eq_true l; replace m := eq_true m) | (go_at_call 39; (with_reducible refine (Zaq.calls (rd b i) c u _ P.out).mono ?_); rintro e w' ⟨rfl, ⟨nd, rfl⟩⟩; (try first | exact dwD | exact dwE)))
       repeat (go_quiet (first | (go_at_call 39; (with_reducible refine (Zaq.calls (rd b c) i s _ O.out).mono ?_); rintro e w' ⟨rfl, ⟨nd, rfl⟩⟩; (try first | exact dwD | exact dwE); have l : 0 ≤ (i : Int) := ofD; have m : i < (b.length : Int) := ofD; obtain ⟨v, z, d⟩ := zK o.out i l m; obtain rfl : p = v := (by injection z); replace d := (HB.out.cell (wB w d)).trans d; replace l := eq_true l; replace m := eq_true m) | (go_at_call 39; (with_reducible refine (Zaq.calls (rd b i) c u _ P.out).mono ?_); rintro e w' ⟨rfl, ⟨nd, rfl⟩⟩; (try first | exact dwD | exact dwE))); try go_wp2_with (first | (go_at_call 39; (with_reducible refine (Zaq.calls (rd b c) i s _ O.out).mono ?_); rintro e w' ⟨rfl, ⟨nd, rfl⟩⟩; (try first | exact dwD | exact dwE); have l : 0 ≤ (i : Int) := ofD; have m : i < (b.length : Int) := ofD; obtain ⟨v, z, d⟩ := zK o.out i l m; obtain rfl : p = v := (by injection z); replace d := (HB.out.cell (wB w d)).trans d; replace l := eq_true l; replace m := eq_true m) | (go_at_call 39; (with_reducible refine (Zaq.calls (rd b i) c u _ P.out).mono ?_); rintro e w' ⟨rfl, ⟨nd, rfl⟩⟩; (try first | exact dwD | exact dwE))))
       go_roundg k3
       case measure => have := ad.out; have := af.out; have := ai.out; omega
       case rel => exact ⟨(wrap64 (i + 1)), (eW), H', ⟨by have := ad.out; have := af.out; have := ai.out; omega⟩, ⟨bP a.out⟩, ⟨bW⟩⟩
def Zby.j0 : Nat → Bool → Int → List Int → Int → Int → Int → List (List Int) → Option (Int)
 | 0, _, _, _, _, _, _, _ => none
 | k + 1, x5, a, c, b, d, e, g => if x5 = true then (some 1) else (if b = a then (some 0) else (some 2))
def Zby.f (k : Nat) (a : Int) (b : List Int) (c : Int) (d : Int) (e : Int) (g : List (List Int)) : Option (Int) := (Za8.f k a b).bind fun h => (if h = true then ((Za5.f k c d e g).bind fun i => (Zby.j0 k (!i) a b c d e g)) else (Zby.j0 k true a b c d e g))
theorem Zby.calls (k : Nat) (c : Int) (o : Option Addr) (p : Nat) (d : List Int) (g : Int) (q : Int) (s : Int) (u : Option Addr) (v : Nat) (l : List (List Int)) (r : Int) (w : World) (z : Kd.C (Kd.int .i64) w o d.length d) (A : d.length ≤ p) (B : Kd.C (Kd.slice 2 (Kd.int .i64)) w u l.length l) (D : l.length ≤ v) (h : Zby.f k c d g q s l = some r) :
  Calls Tryd.prog 35 #[.agg #[.int .i64 c, .slice o d.length p], .agg #[.int .i64 g, .int .i64 q, .int .i64 s, .slice u l.length v]] w fun e w' => e = .returned (.int .i64 r) ∧ Below w.heap.size w w' := by
 have aV := Tryd.underlying32
 have aW := Tryd.underlying34
 have E := mA z
 have G := mA A
 clear z A
 have ag := mA B
 have ah := mA D
 clear B D
 have HB := mA (Below.refl w.heap.size w)
 unfold Zby.f at h
 have H := h
 clear h
 have ae := mA H
 clear H
 go_enter Tryd.func35, Tryd.ntmps35
 go_upto_region 1 with (first | ((with_reducible refine Zan (N := 2) rfl ?_); refine boxS (N := 2) (cs := #[.int .i64 c, .slice o d.length p]) (t := 32) ?_; intro i hg w4 hbox hb; have a := mA (hbox); have aL := geW (w := w) hg; have aM := geW (w := w) hg; replace HB := mA (Zac (bW) hb); clear hb hbox hg) | ((with_reducible refine Zan (N := 3) rfl ?_); refine boxS (N := 3) (cs := #[.int .i64 g, .int .i64 q, .int .i64 s, .slice u l.length v]) (t := 34) ?_; intro j hg w5 hbox hb; have b := mA (hbox); have aN := geW (w := w) hg; have aO := geW (w := w) hg; replace HB := mA (Zac (bW) hb); have m := mA (neB hg a); have n := mA (neC hg a); replace a := mA (blkB a.out hb); clear hb hbox hg))
 (try simp only [Act.put, List.setIfInBounds_toArray, List.set_cons_zero, List.set_cons_succ])
 go_cut [5] (fun v5 wc => ∃ (kq : Nat) (y : Bool), v5 = .bool y ∧ Zab (Zby.j0 kq y c d g q s l = some r) ∧ Zab (kq ≤ k) ∧ Zab (wc.heap[i]? = some (.cells #[.int .i64 c, (.slice o d.length p)] 32 (0, 0))) ∧ Zab (wc.heap[j]? = some (.cells #[.int .i64 g, .int .i64 q, .int .i64 s, (.slice u l.length v)] 34 (0, 0))) ∧ Zab (Below w.heap.size w wc))
 case first =>
  have H := ae.out
  clear ae
  obtain ⟨ak, A6, H⟩ := bA H
  by_cases c7 : ak = true; rotate_left
  ·replace c7 := Bool.eq_false_iff.mpr c7
   subst c7
   rw [iF] at H
   have H' := mA H
   clear H
   have aP := m.out
   have aQ := n.out
   have J : w5.cell? ⟨i, 0, none⟩ = some (.int .i64 c) := bc a 0
   have K : w5.cell? ⟨i, 1, none⟩ = some (.slice o d.length p) := bc a 1
   have L := Zaa a.out 0
   have M := Zaa a.out 1
   go_wp2_with (first | ((with_reducible refine Zal (f := 70) rfl ?_); refine Zbc (some 7) Tryd.func70 #[.agg #[.int .i64 c, .slice o d.length p]] ?_; (with_reducible refine (Za8.calls k c _ _ d false _ ?side1 ?side2 A6.out).mono ?_); (case side1 => exact cP (zC E.out HB.out)); (case side2 => exact G.out); rintro e aZ ⟨rfl, hb⟩; refine ⟨_, rfl, ?_⟩; replace a := mA (blkB a.out hb); replace b := mA (blkB b.out hb); replace HB := mA (Zac (bW) hb); (try clear hb); (try clear hb2); (try clear hk); (try clear hi)))
   go_meet
   case rel => exact ⟨_, (true), (eW), H', ⟨by first | omega | exact Nat.le_refl _⟩, ⟨bP a.out⟩, ⟨bP b.out⟩, ⟨bW⟩⟩
  subst c7
  rw [if_pos rfl] at H
  obtain ⟨af, A8, H⟩ := bA H
  have H' := mA H
  clear H
  have aX := m.out
  have aY := n.out
  have O : w5.cell? ⟨i, 0, none⟩ = some (.int .i64 c) := bc a 0
  have P : w5.cell? ⟨i, 1, none⟩ = some (.slice o d.length p) := bc a 1
  have T := Zaa a.out 0
  have U := Zaa a.out 1
  go_wp2_with (first | ((with_reducible refine Zal (f := 70) rfl ?_); refine Zbc (some 7) Tryd.func70 #[.agg #[.int .i64 c, .slice o d.length p]] ?_; (with_reducible refine (Za8.calls k c _ _ d true _ ?side1 ?side2 A6.out).mono ?_); (case side1 => exact cP (zC E.out HB.out)); (case side2 => exact G.out); rintro e a0 ⟨rfl, hb⟩; refine ⟨_, rfl, ?_⟩; replace a := mA (blkB a.out hb); replace b := mA (blkB b.out hb); replace HB := mA (Zac (bW) hb); (try clear hb); (try clear hb2); (try clear hk); (try clear hi); obtain ⟨W, X, Y, Z⟩ := Zbk b.out; obtain ⟨aa, ab, ac, ad⟩ := frz4 b.out) | (go_at_call 53; (with_reducible refine (Za5.calls k g q s _ _ l af _ ?side1 ?side2 A8.out).mono ?_); (case side1 => exact cP (zC ag.out HB.out)); (case side2 => exact ah.out); rintro e a1 ⟨rfl, hb⟩; replace a := mA (blkB a.out hb); replace b := mA (blkB b.out hb); replace HB := mA (Zac (bW) hb); (try clear hb); (try clear hb2); (try clear hk); (try clear hi)))
  go_meet
  case rel => exact ⟨_, (!af), (eW), H', ⟨by first | omega | exact Nat.le_refl _⟩, ⟨bP a.out⟩, ⟨bP b.out⟩, ⟨bW⟩⟩
 case rest =>
  clear ae
  try clear c1
  try clear p2
  try clear c3
  try clear c7
  try clear c9
  try clear c14
  try clear O
  try clear P
  try clear W
  try clear X
  try clear Y
  try clear Z
  try clear J
  try clear K
  try clear T
  try clear U
  try clear aa
  try clear ab
  try clear ac
  try clear ad
  try clear L
  try clear M
  obtain ⟨kq, y, rfl, HA, a2, a, b, HB⟩ := hcut
  cases kq with
  | zero => exact absurd HA.out (by simp [Zby.j0])
  | succ a3 =>
   have H := HA.out
   clear HA
   simp only [Zby.j0] at H
   by_cases I : y = true
   ·subst I
    rw [if_pos rfl] at H
    obtain rfl := oI H
    go_wp2
    go_ret
    exact ⟨eW, bW⟩
   replace I := Bool.eq_false_iff.mpr I
   subst I
   rw [iF] at H
   by_cases x : g = c; rotate_left
   ·rw [if_neg x] at H
    have ai : (g == c) = false := beq_eq_false_iff_ne.mpr x
    have aj : (g != c) = true := bne_iff_ne.mpr x
    obtain rfl := oI H
    have aR := n.out
    have aS := m.out
    have al : wc.cell? ⟨j, 0, none⟩ = some (.int .i64 g) := bc b 0
    have am : wc.cell? ⟨j, 1, none⟩ = some (.int .i64 q) := bc b 1
    have an : wc.cell? ⟨j, 2, none⟩ = some (.int .i64 s) := bc b 2
    have ao : wc.cell? ⟨j, 3, none⟩ = some (.slice u l.length v) := bc b 3
    have ap := Zaa b.out 0
    have aq := Zaa b.out 1
    have ar := Zaa b.out 2
    have au := Zaa b.out 3
    have av : wc.cell? ⟨i, 0, none⟩ = some (.int .i64 c) := bc a 0
    have aw : wc.cell? ⟨i, 1, none⟩ = some (.slice o d.length p) := bc a 1
    have ax := Zaa a.out 0
    have ay := Zaa a.out 1
    go_wp2
    go_ret
    exact ⟨eW, bW⟩
   rw [if_pos x] at H
   have ai : (g == c) = true := beq_iff_eq.mpr x
   have aj : (g != c) = false := bne_eq_false_iff_eq.mpr x
   clear x
   obtain rfl := oI H
   have aT := n.out
   have aU := m.out
   have az : wc.cell? ⟨j, 0, none⟩ = some (.int .i64 g) := bc b 0
   have aA : wc.cell? ⟨j, 1, none⟩ = some (.int .i64 q) := bc b 1
   have aB : wc.cell? ⟨j, 2, none⟩ = some (.int .i64 s) := bc b 2
   have aC : wc.cell? ⟨j, 3, none⟩ = some (.slice u l.length v) := bc b 3
   have aD := Zaa b.out 0
   have aE := Zaa b.out 1
   have aF := Zaa b.out 2
   have aG := Zaa b.out 3
   have aH : wc.cell? ⟨i, 0, none⟩ = some (.int .i64 c) := bc a 0
   have aI : wc.cell? ⟨i, 1, none⟩ = some (.slice o d.length p) := bc a 1
   have aJ := Zaa a.out 0
   have aK := Zaa a.out 1
   go_wp2
   go_ret
   exact ⟨eW, bW⟩
end Go.Proofs.YtlmicipfikammaaDoor.P
end
