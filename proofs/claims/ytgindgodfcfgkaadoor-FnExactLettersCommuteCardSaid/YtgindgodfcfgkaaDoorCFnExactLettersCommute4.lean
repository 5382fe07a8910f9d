import Derived.Test.YtgindgodfcfgkaaDoorCFnExactLettersCommute3
set_option maxHeartbeats 8000000
set_option maxRecDepth 100000
section M0
namespace Go.Proofs.YtgindgodfcfgkaaDoor.P
open Go.RowKit Go.Proofs.YtgindgodfcfgkaaDoor.Sh Go.Proofs.YtgindgodfcfgkaaDoorW.PrintWords Go.Proofs.YtgindgodfcfgkaaDoorW.PrintLast Go.Proofs.YtgindgodfcfgkaaDoorW.PrintMore
open Kd
attribute [local go_sem] Zcd Zca Zcn Zcm Zb1 Zb2 Zcc Zce   -- for this text's walks alone
set_option linter.unusedVariables false
set_option linter.unusedSimpArgs false
mutual
def Zbb.j0 : Nat → Int → Bool → Int → Int → Int → List (List Int) → Option (Bool)
 | 0, _, _, _, _, _, _ => none
 | k + 1, x3, e, a, b, c, d => if e = true then (some false) else (Zbb.l0 k x3 0 a b c d)
def Zbb.l0 : Nat → Int → Int → Int → Int → Int → List (List Int) → Option (Bool)
 | 0, _, _, _, _, _, _ => none
 | k + 1, x3, x4, b, c, d, a => if x4 < x3 then (if 0 ≤ x4 then (if x4 < (a.length : Int) then (if ((Zae a x4).length : Int) = b then (Zbb.l1 k x3 x4 0 b c d a) else (some false)) else (none)) else (none)) else (some true)
def Zbb.l1 : Nat → Int → Int → Int → Int → Int → Int → List (List Int) → Option (Bool)
 | 0, _, _, _, _, _, _, _ => none
 | k + 1, x3, x4, x5, b, c, d, a => if x5 < b then (if 0 ≤ x4 then (if x4 < (a.length : Int) then (if 0 ≤ x5 then (if x5 < ((Zae a x4).length : Int) then ((Zau.f (rd (Zae a x4) x5) (-1) (wrap64 (x3 - 1))).bind fun e => (if e = true then (Zbb.l1 k x3 x4 (wrap64 (x5 + 1)) b c d a) else (some false))) else (none)) else (none)) else (none)) else (none)) else (Zbb.l0 k x3 (wrap64 (x4 + 1)) b c d a)
end
def Zbb.f (k : Nat) (b : Int) (c : Int) (d : Int) (e : List (List Int)) : Option (Bool) := (Zbr.f b c d e).bind fun a => ((Zau.f b 0 8).bind fun g => (if g = true then ((Zau.f a 1 16).bind fun h => (if h = true then ((Zau.f c 0 (wrap64 (a - 1))).bind fun i => (if i = true then ((Zb4.f a).bind fun j => ((Zau.f d 0 j).bind fun l => (Zbb.j0 k a (!l) b c d e))) else (Zbb.j0 k a true b c d e))) else (Zbb.j0 k a true b c d e))) else (Zbb.j0 k a true b c d e)))
theorem Zbb.calls (k : Nat) (d : Int) (j : Int) (l : Int) (q : Option Addr) (o : Nat) (c : List (List Int)) (r : Bool) (w : World) (aq : Kd.C (Kd.slice 2 (Kd.int .i64)) w q c.length c) (ar : c.length ≤ o) (h : Zbb.f k d j l c = some r) :
  Calls Tryd.prog 37 #[.agg #[.int .i64 d, .int .i64 j, .int .i64 l, .slice q c.length o]] w fun e w' => e = .returned (.bool r) ∧ Below w.heap.size w w' := by
 have cv := Tryd.underlying34
 have z := mA aq
 have ak := mA ar
 clear aq ar
 have HB := mA (Below.refl w.heap.size w)
 unfold Zbb.f at h
 have H := h
 clear h
 replace H := bE H
 obtain ⟨i, a8, H⟩ := H
 have A2 := mA a8
 clear a8
 have aW := mA H
 clear H
 go_enter Tryd.func37, Tryd.ntmps37
 go_upto_region 2 with (first | ((with_reducible refine Zap (N := 1) rfl ?_); refine boxS (N := 1) (cs := #[.int .i64 d, .int .i64 j, .int .i64 l, .slice q c.length o]) (t := 34) ?_; intro b hg w4 hbox hb; have a := mA (hbox); have au := geW (w := w) hg; have av := geW (w := w) hg; replace HB := mA (Zac (bW) hb); clear hb hbox hg; obtain ⟨O, P, T, U⟩ := Zbi a.out; obtain ⟨W, X, Y, aa⟩ := frz4 a.out) | (go_at_call 48; (with_reducible refine (Zbr.calls d j l _ _ c i _ ?side1 ?side2 A2.out).mono ?_); (case side1 => exact cP (zF z.out HB.out)); (case side2 => exact ak.out); rintro e w6 ⟨rfl, hb⟩; replace a := mA (blkB a.out hb); replace HB := mA (Zac (bW) hb); (try clear hb); (try clear hb2); (try clear hk); (try clear hi)))
 repeat (go_quiet (first | ((with_reducible refine Zap (N := 1) rfl ?_); refine boxS (N := 1) (cs := #[.int .i64 d, .int .i64 j, .int .i64 l, .slice q c.length o]) (t := 34) ?_; intro b hg w4 hbox hb; have a := mA (hbox); have au := geW (w := w) hg; have av := geW (w := w) hg; replace HB := mA (Zac (bW) hb); clear hb hbox hg; obtain ⟨O, P, T, U⟩ := Zbi a.out; obtain ⟨W, X, Y, aa⟩ := frz4 a.out) | (go_at_call 48; (with_reducible refine (Zbr.calls d j l _ _ c i _ ?side1 ?side2 A2.out).mono ?_); (case side1 => exact cP (zF z.out HB.out)); (case side2 => exact ak.out); rintro e w6 ⟨rfl, hb⟩; replace a := mA (blkB a.out hb); replace HB := mA (Zac (bW) hb); (try clear hb); (try clear hb2); (try clear hk); (try clear hi))); go_upto_region 2 with (first | ((with_reducible refine Zap (N := 1) rfl ?_); refine boxS (N := 1) (cs := #[.int .i64 d, .int .i64 j, .int .i64 l, .slice q c.length o]) (t := 34) ?_; intro b hg w4 hbox hb; have a := mA (hbox); have au := geW (w := w) hg; have av := geW (w := w) hg; replace HB := mA (Zac (bW) hb); clear hb hbox hg; obtain ⟨O, P, T, U⟩ := Zbi a.out; obtain ⟨W, X, Y, aa⟩ := frz4 a.out) | (go_at_call 48; (with_reducible refine (Zbr.calls d j l _ _ c i _ ?side1 ?side2 A2.out).mono ?_); (case side1 => exact cP (zF z.out HB.out)); (case side2 => exact ak.out); rintro e w6 ⟨rfl, hb⟩; replace a := mA (blkB a.out hb); replace HB := mA (Zac (bW) hb); (try clear hb); (try clear hb2); (try clear hk); (try clear hi))))
 (try simp only [Act.put, List.setIfInBounds_toArray, List.set_cons_zero, List.set_cons_succ])
 go_cut [32] (fun v32 wc => ∃ (kq : Nat) (M : Bool), v32 = .bool M ∧ Zaa (Zbb.j0 kq i M d j l c = some r) ∧ Zaa (kq ≤ k) ∧ Zaa (wc.heap[b]? = some (.cells #[.int .i64 d, .int .i64 j, .int .i64 l, (.slice q c.length o)] 34 (0, 0))) ∧ Zaa (Below w.heap.size w wc))
 case first =>
  have H := aW.out
  clear aW
  replace H := bE H
  obtain ⟨bd, a9, H⟩ := H
  have A7 := mA a9
  clear a9
  by_cases c8 : bd = true; rotate_left
  ·replace c8 := Bool.eq_false_iff.mpr c8
   subst c8
   rw [iF] at H
   have H' := mA H
   clear H
   have bi : w6.cell? ⟨b, 0, none⟩ = some (.int .i64 d) := bc a 0
   have bj : w6.cell? ⟨b, 1, none⟩ = some (.int .i64 j) := bc a 1
   have bk : w6.cell? ⟨b, 2, none⟩ = some (.int .i64 l) := bc a 2
   have bl : w6.cell? ⟨b, 3, none⟩ = some (.slice q c.length o) := bc a 3
   have bm := Zab a.out 0
   have bn := Zab a.out 1
   have bo := Zab a.out 2
   have bp := Zab a.out 3
   go_wp2_with (first | (go_at_call 55; (with_reducible refine (Zau.calls d 0 8 false _ A7.out).mono ?_); rintro e w' ⟨rfl, ⟨nd, rfl⟩⟩; (try first | exact dwD | exact dwE)))
   repeat (go_quiet (first | (go_at_call 55; (with_reducible refine (Zau.calls d 0 8 false _ A7.out).mono ?_); rintro e w' ⟨rfl, ⟨nd, rfl⟩⟩; (try first | exact dwD | exact dwE))); try go_wp2_with (first | (go_at_call 55; (with_reducible refine (Zau.calls d 0 8 false _ A7.out).mono ?_); rintro e w' ⟨rfl, ⟨nd, rfl⟩⟩; (try first | exact dwD | exact dwE))))
   go_meet
   case rel => exact ⟨_, (true), (eW), H', ⟨by first | omega | exact Nat.le_refl _⟩, ⟨bP a.out⟩, ⟨bW⟩⟩
  subst c8
  rw [if_pos rfl] at H
  replace H := bE H
  obtain ⟨bf, ba, H⟩ := H
  have A9 := mA ba
  clear ba
  by_cases c10 : bf = true; rotate_left
  ·replace c10 := Bool.eq_false_iff.mpr c10
   subst c10
   rw [iF] at H
   have H' := mA H
   clear H
   have bq : w6.cell? ⟨b, 0, none⟩ = some (.int .i64 d) := bc a 0
   have br : w6.cell? ⟨b, 1, none⟩ = some (.int .i64 j) := bc a 1
   have bs : w6.cell? ⟨b, 2, none⟩ = some (.int .i64 l) := bc a 2
   have bu : w6.cell? ⟨b, 3, none⟩ = some (.slice q c.length o) := bc a 3
   have bv := Zab a.out 0
   have bw := Zab a.out 1
   have bx := Zab a.out 2
   have bz := Zab a.out 3
   go_wp2_with (first | (go_at_call 55; (with_reducible refine (Zau.calls d 0 8 true _ A7.out).mono ?_); rintro e w' ⟨rfl, ⟨nd, rfl⟩⟩; (try first | exact dwD | exact dwE)) | (go_at_call 55; (with_reducible refine (Zau.calls i 1 16 false _ A9.out).mono ?_); rintro e w' ⟨rfl, ⟨nd, rfl⟩⟩; (try first | exact dwD | exact dwE)))
   repeat (go_quiet (first | (go_at_call 55; (with_reducible refine (Zau.calls d 0 8 true _ A7.out).mono ?_); rintro e w' ⟨rfl, ⟨nd, rfl⟩⟩; (try first | exact dwD | exact dwE)) | (go_at_call 55; (with_reducible refine (Zau.calls i 1 16 false _ A9.out).mono ?_); rintro e w' ⟨rfl, ⟨nd, rfl⟩⟩; (try first | exact dwD | exact dwE))); try go_wp2_with (first | (go_at_call 55; (with_reducible refine (Zau.calls d 0 8 true _ A7.out).mono ?_); rintro e w' ⟨rfl, ⟨nd, rfl⟩⟩; (try first | exact dwD | exact dwE)) | (go_at_call 55; (with_reducible refine (Zau.calls i 1 16 false _ A9.out).mono ?_); rintro e w' ⟨rfl, ⟨nd, rfl⟩⟩; (try first | exact dwD | exact dwE))))
   go_meet
   case rel => exact ⟨_, (true), (eW), H', ⟨by first | omega | exact Nat.le_refl _⟩, ⟨bP a.out⟩, ⟨bW⟩⟩
  subst c10
  rw [if_pos rfl] at H
  replace H := bE H
  obtain ⟨bg, aX, H⟩ := H
  have ag := mA aX
  clear aX
  by_cases aw : bg = true; rotate_left
  ·replace aw := Bool.eq_false_iff.mpr aw
   subst aw
   rw [iF] at H
   have H' := mA H
   clear H
   have bA : w6.cell? ⟨b, 0, none⟩ = some (.int .i64 d) := bc a 0
   have bB : w6.cell? ⟨b, 1, none⟩ = some (.int .i64 j) := bc a 1
   have bC : w6.cell? ⟨b, 2, none⟩ = some (.int .i64 l) := bc a 2
   have bD : w6.cell? ⟨b, 3, none⟩ = some (.slice q c.length o) := bc a 3
   have bF := Zab a.out 0
   have bG := Zab a.out 1
   have bH := Zab a.out 2
   have bI := Zab a.out 3
   go_wp2_with (first | (go_at_call 55; (with_reducible refine (Zau.calls d 0 8 true _ A7.out).mono ?_); rintro e w' ⟨rfl, ⟨nd, rfl⟩⟩; (try first | exact dwD | exact dwE)) | (go_at_call 55; (with_reducible refine (Zau.calls i 1 16 true _ A9.out).mono ?_); rintro e w' ⟨rfl, ⟨nd, rfl⟩⟩; (try first | exact dwD | exact dwE)) | (go_at_call 55; (with_reducible refine (Zau.calls j 0 (wrap64 (i - 1)) false _ ag.out).mono ?_); rintro e w' ⟨rfl, ⟨nd, rfl⟩⟩; (try first | exact dwD | exact dwE)))
   repeat (go_quiet (first | (go_at_call 55; (with_reducible refine (Zau.calls d 0 8 true _ A7.out).mono ?_); rintro e w' ⟨rfl, ⟨nd, rfl⟩⟩; (try first | exact dwD | exact dwE)) | (go_at_call 55; (with_reducible refine (Zau.calls i 1 16 true _ A9.out).mono ?_); rintro e w' ⟨rfl, ⟨nd, rfl⟩⟩; (try first | exact dwD | exact dwE)) | (go_at_call 55; (with_reducible refine (Zau.calls j 0 (wrap64 (i - 1)) false _ ag.out).mono ?_); rintro e w' ⟨rfl, ⟨nd, rfl⟩⟩; (try first | exact dwD | exact dwE))); try go_wp2_with (first | (go_at_call 55; (with_reducible refine (Zau.calls d 0 8 true _ A7.out).mono ?_); rintro e w' ⟨rfl, ⟨nd, rfl⟩⟩; (try first | exact dwD | exact dwE)) | (go_at_call 55; (with_reducible refine (Zau.calls i 1 16 true _ A9.out).mono ?_); rintro e w' ⟨rfl, ⟨nd, rfl⟩⟩; (try first | exact dwD | exact dwE)) | (go_at_call 55; (with_reducible refine (Zau.calls j 0 (wrap64 (i - 1)) false _ ag.out).mono ?_); rintro e w' ⟨rfl, ⟨nd, rfl⟩⟩; (try first | exact dwD | exact dwE))))
   go_meet
   case rel => exact ⟨_, (true), (eW), H', ⟨by first | omega | exact Nat.le_refl _⟩, ⟨bP a.out⟩, ⟨bW⟩⟩
  subst aw
  rw [if_pos rfl] at H
  replace H := bE H
  obtain ⟨K, aY, H⟩ := H
  have aZ := mA aY
  clear aY
  replace H := bE H
  obtain ⟨al, a0, H⟩ := H
  have a1 := mA a0
  clear a0
  have H' := mA H
  clear H
  have bJ : w6.cell? ⟨b, 0, none⟩ = some (.int .i64 d) := bc a 0
  have bK : w6.cell? ⟨b, 1, none⟩ = some (.int .i64 j) := bc a 1
  have bL : w6.cell? ⟨b, 2, none⟩ = some (.int .i64 l) := bc a 2
  have bM : w6.cell? ⟨b, 3, none⟩ = some (.slice q c.length o) := bc a 3
  have bN := Zab a.out 0
  have bO := Zab a.out 1
  have bQ := Zab a.out 2
  have bR := Zab a.out 3
  go_wp2_with (first | (go_at_call 55; (with_reducible refine (Zau.calls d 0 8 true _ A7.out).mono ?_); rintro e w' ⟨rfl, ⟨nd, rfl⟩⟩; (try first | exact dwD | exact dwE)) | (go_at_call 55; (with_reducible refine (Zau.calls i 1 16 true _ A9.out).mono ?_); rintro e w' ⟨rfl, ⟨nd, rfl⟩⟩; (try first | exact dwD | exact dwE)) | (go_at_call 55; (with_reducible refine (Zau.calls j 0 (wrap64 (i - 1)) true _ ag.out).mono ?_); rintro e w' ⟨rfl, ⟨nd, rfl⟩⟩; (try first | exact dwD | exact dwE)) | (go_at_call 57; (with_reducible refine (Zb4.calls i K _ aZ.out).mono ?_); rintro e w' ⟨rfl, ⟨nd, rfl⟩⟩; (try first | exact dwD | exact dwE)) | (go_at_call 55; (with_reducible refine (Zau.calls l 0 K al _ a1.out).mono ?_); rintro e w' ⟨rfl, ⟨nd, rfl⟩⟩; (try first | exact dwD | exact dwE)))
  repeat (go_quiet (first | (go_at_call 55; (with_reducible refine (Zau.calls d 0 8 true _ A7.out).mono ?_); rintro e w' ⟨rfl, ⟨nd, rfl⟩⟩; (try first | exact dwD | exact dwE)) | (go_at_call 55; (with_reducible refine (Zau.calls i 1 16 true _ A9.out).mono ?_); rintro e w' ⟨rfl, ⟨nd, rfl⟩⟩; (try first | exact dwD | exact dwE)) | (go_at_call 55; (with_reducible refine (Zau.calls j 0 (wrap64 (i - 1)) true _ ag.out).mono ?_); rintro e w' ⟨rfl, ⟨nd, rfl⟩⟩; (try first | exact dwD | exact dwE)) | (go_at_call 57; (with_reducible refine (Zb4.calls i K _ aZ.out).mono ?_); rintro e w' ⟨rfl, ⟨nd, rfl⟩⟩; (try first | exact dwD | exact dwE)) | (go_at_call 55; (with_reducible refine (Zau.calls l 0 K al _ a1.out).mono ?_); rintro e w' ⟨rfl, ⟨nd, rfl⟩⟩; (try first | exact dwD | exact dwE))); try go_wp2_with (first | (go_at_call 55; (with_reducible refine (Zau.calls d 0 8 true _ A7.out).mono ?_); rintro e w' ⟨rfl, ⟨nd, rfl⟩⟩; (try first | exact dwD | exact dwE)) | (go_at_call 55; (with_reducible refine (Zau.calls i 1 16 true _ A9.out).mono ?_); rintro e w' ⟨rfl, ⟨nd, rfl⟩⟩; (try first | exact dwD | exact dwE)) | (go_at_call 55; (with_reducible refine (Zau.calls j 0 (wrap64 (i - 1)) true _ ag.out).mono ?_); rintro e w' ⟨rfl, ⟨nd, rfl⟩⟩; (try first | exact dwD | exact dwE)) | (go_at_call 57; (with_reducible refine (Zb4.calls i K _ aZ.out).mono ?_); rintro e w' ⟨rfl, ⟨nd, rfl⟩⟩; (try first | exact dwD | exact dwE)) | (go_at_call 55; (with_reducible refine (Zau.calls l 0 K al _ a1.out).mono ?_); rintro e w' ⟨rfl, ⟨nd, rfl⟩⟩; (try first | exact dwD | exact dwE))))
  go_meet
  case rel => exact ⟨_, (!al), (eW), H', ⟨by first | omega | exact Nat.le_refl _⟩, ⟨bP a.out⟩, ⟨bW⟩⟩
 case rest =>
  clear aW O P T U W X Y aa
  obtain ⟨kq, M, rfl, HA, ax, a, HB⟩ := hcut
  cases kq with
  | zero => exact absurd HA.out (by simp [Zbb.j0])
  | succ bb =>
   have H := HA.out
   clear HA
   simp only [Zbb.j0] at H
   by_cases ay : M = true
   ·subst ay
    rw [if_pos rfl] at H
    obtain rfl := oI H
    go_wp2
    repeat (go_quiet (fail); try go_wp2)
    go_ret
    exact ⟨eW, bW⟩
   replace ay := Bool.eq_false_iff.mpr ay
   subst ay
   rw [iF] at H
   have H' := mA H
   clear H
   go_wp2
   repeat (go_quiet (fail); try go_wp2)
   go_loopg [4] bb (fun kq v4 w' => ∃ (g : Int), v4 = .int .i64 g ∧ Zaa (Zbb.l0 kq i g d j l c = some r) ∧ Zaa (kq ≤ bb) ∧ Zaa (w'.heap[b]? = some (.cells #[.int .i64 d, .int .i64 j, .int .i64 l, (.slice q c.length o)] 34 (0, 0))) ∧ Zaa (Below w.heap.size w w'))
   case atStart => exact ⟨(0), (eW), H', ⟨Nat.le_refl _⟩, ⟨bP a.out⟩, ⟨bW⟩⟩
   case round =>
    clear H'
    obtain ⟨g, rfl, HA, az, a, HB⟩ := hrel
    cases gk with
    | zero => exact absurd HA.out (by simp [Zbb.l0])
    | succ k2 =>
     have H := HA.out
     clear HA
     simp only [Zbb.l0] at H
     by_cases ah : g < i; rotate_left
     ·rw [if_neg ah] at H
      have aA := dF ah
      clear ah
      obtain rfl := oI H
      go_wp2
      repeat (go_quiet (fail); try go_wp2)
      go_ret
      exact ⟨eW, bW⟩
     rw [if_pos ah] at H
     have aA := dT ah
     clear ah
     by_cases aB : 0 ≤ g; rotate_left
     ·rw [if_neg aB] at H
      exact absurd H (by simp)
     rw [if_pos aB] at H
     have a4 := dT aB
     clear aB
     by_cases aC : g < (c.length : Int); rotate_left
     ·rw [if_neg aC] at H
      exact absurd H (by simp)
     rw [if_pos aC] at H
     have a5 := dT aC
     clear aC
     by_cases ab : ((Zae c g).length : Int) = d; rotate_left
     ·rw [if_neg ab] at H
      have aD : (((Zae c g).length : Int) == d) = false := beq_eq_false_iff_ne.mpr ab
      have aE : (((Zae c g).length : Int) != d) = true := bne_iff_ne.mpr ab
      obtain rfl := oI H
      have bS : wr.cell? ⟨b, 0, none⟩ = some (.int .i64 d) := bc a 0
      have bT : wr.cell? ⟨b, 1, none⟩ = some (.int .i64 j) := bc a 1
      have bU : wr.cell? ⟨b, 2, none⟩ = some (.int .i64 l) := bc a 2
      have bV : wr.cell? ⟨b, 3, none⟩ = some (.slice q c.length o) := bc a 3
      have bX := Zab a.out 0
      have bY := Zab a.out 1
      have bZ := Zab a.out 2
      have b0 := Zab a.out 3
      have B : 0 ≤ (g : Int) := ofD
      have D : g < (c.length : Int) := ofD
      obtain ⟨A, ac, ad, an, n, u, v⟩ := Zch z.out g B D
      cases an
      replace n := (HB.out.cell (wB w n)).trans n
      have aL := mA v
      have aM := mA u
      clear v u
      replace B := eq_true B
      replace D := eq_true D
      go_wp2
      repeat (go_quiet (fail); try go_wp2)
      go_ret
      exact ⟨eW, bW⟩
     rw [if_pos ab] at H
     have aD : (((Zae c g).length : Int) == d) = true := beq_iff_eq.mpr ab
     have aE : (((Zae c g).length : Int) != d) = false := bne_eq_false_iff_eq.mpr ab
     clear ab
     have H' := mA H
     clear H
     have aN : wr.cell? ⟨b, 0, none⟩ = some (.int .i64 d) := bc a 0
     have aO : wr.cell? ⟨b, 1, none⟩ = some (.int .i64 j) := bc a 1
     have aP : wr.cell? ⟨b, 2, none⟩ = some (.int .i64 l) := bc a 2
     have aQ : wr.cell? ⟨b, 3, none⟩ = some (.slice q c.length o) := bc a 3
     have aR := Zab a.out 0
     have aS := Zab a.out 1
     have aT := Zab a.out 2
     have aU := Zab a.out 3
     have B : 0 ≤ (g : Int) := ofD
     have D : g < (c.length : Int) := ofD
     obtain ⟨A, ac, ad, an, n, u, v⟩ := Zch z.out g B D
     cases an
     replace n := (HB.out.cell (wB w n)).trans n
     have aL := mA v
     have aM := mA u
     clear v u
     replace B := eq_true B
     replace D := eq_true D
     go_wp2
     repeat (go_quiet (fail); try go_wp2)
     go_loopg [5] k2 (fun kq v5 w' => ∃ (m : Int), v5 = .int .i64 m ∧ Zaa (Zbb.l1 kq i g m d j l c = some r) ∧ Zaa (kq ≤ k2) ∧ Zaa (w'.heap[b]? = some (.cells #[.int .i64 d, .int .i64 j, .int .i64 l, (.slice (some A) c.length o)] 34 (0, 0))) ∧ Zaa (Below w.heap.size w w'))
     case atStart => exact ⟨(0), (eW), H', ⟨Nat.le_refl _⟩, ⟨bP a.out⟩, ⟨bW⟩⟩
     case round =>
      clear H' aA a4 a5 aD aE aN aO aP aQ aR aS aT aU n B D
      obtain ⟨m, rfl, HA, aF, a, HB⟩ := hrel
      cases gk with
      | zero => exact absurd HA.out (by simp [Zbb.l1])
      | succ k3 =>
       have H := HA.out
       clear HA
       simp only [Zbb.l1] at H
       by_cases ai : m < d; rotate_left
       ·rw [if_neg ai] at H
        have a6 := dF ai
        clear ai
        have H' := mA H
        clear H
        have b1 : wr.cell? ⟨b, 0, none⟩ = some (.int .i64 d) := bc a 0
        have b2 : wr.cell? ⟨b, 1, none⟩ = some (.int .i64 j) := bc a 1
        have b3 : wr.cell? ⟨b, 2, none⟩ = some (.int .i64 l) := bc a 2
        have b4 : wr.cell? ⟨b, 3, none⟩ = some (.slice (some A) c.length o) := bc a 3
        have b5 := Zab a.out 0
        have b6 := Zab a.out 1
        have b7 := Zab a.out 2
        have b8 := Zab a.out 3
        go_wp2
        repeat (go_quiet (fail); try go_wp2)
        go_roundg k3
        case measure => have := ax.out; have := az.out; have := aF.out; omega
        case rel => exact ⟨(wrap64 (g + 1)), (eW), H', ⟨by have := ax.out; have := az.out; have := aF.out; omega⟩, ⟨bP a.out⟩, ⟨bW⟩⟩
       rw [if_pos ai] at H
       have a6 := dT ai
       clear ai
       by_cases aG : 0 ≤ g; rotate_left
       ·rw [if_neg aG] at H
        exact absurd H (by simp)
       rw [if_pos aG] at H
       have cq := dT aG
       clear aG
       by_cases aH : g < (c.length : Int); rotate_left
       ·rw [if_neg aH] at H
        exact absurd H (by simp)
       rw [if_pos aH] at H
       have cr := dT aH
       clear aH
       by_cases aI : 0 ≤ m; rotate_left
       ·rw [if_neg aI] at H
        exact absurd H (by simp)
       rw [if_pos aI] at H
       have ct := dT aI
       clear aI
       by_cases aJ : m < ((Zae c g).length : Int); rotate_left
       ·rw [if_neg aJ] at H
        exact absurd H (by simp)
       rw [if_pos aJ] at H
       have cu := dT aJ
       clear aJ
       replace H := bE H
       obtain ⟨bh, a2, H⟩ := H
       have aj := mA a2
       clear a2
       by_cases aK : bh = true; rotate_left
       ·replace aK := Bool.eq_false_iff.mpr aK
        subst aK
        rw [iF] at H
        obtain rfl := oI H
        have b9 : wr.cell? ⟨b, 0, none⟩ = some (.int .i64 d) := bc a 0
        have ca : wr.cell? ⟨b, 1, none⟩ = some (.int .i64 j) := bc a 1
        have cb : wr.cell? ⟨b, 2, none⟩ = some (.int .i64 l) := bc a 2
        have cc : wr.cell? ⟨b, 3, none⟩ = some (.slice (some A) c.length o) := bc a 3
        have cd := Zab a.out 0
        have ce := Zab a.out 1
        have cf := Zab a.out 2
        have cg := Zab a.out 3
        have E : 0 ≤ (g : Int) := ofD
        have G : g < (c.length : Int) := ofD
        obtain ⟨am, ae, af, ao, p, x, y⟩ := Zch z.out g E G
        obtain rfl : A = am := (by injection ao)
        (try (have a3 : ae = ac ∧ af = ad := (by have e_ := p.symm.trans n; simpa using e_)))
        replace p := (HB.out.cell (wB w p)).trans p
        have L := mA y
        have aV := mA x
        clear y x
        replace E := eq_true E
        replace G := eq_true G
        have I : 0 ≤ (m : Int) := ofD
        have J : m < ((Zae c g).length : Int) := ofD
        obtain ⟨a7, ap, s⟩ := zI L.out m I J
        cases ap
        replace s := (HB.out.cell (wB w s)).trans s
        replace I := eq_true I
        replace J := eq_true J
        go_wp2_with (first | (go_at_call 55; (with_reducible refine (Zau.calls (rd (Zae c g) m) (-1) (wrap64 (i - 1)) false _ aj.out).mono ?_); rintro e w' ⟨rfl, ⟨nd, rfl⟩⟩; (try first | exact dwD | exact dwE)))
        repeat (go_quiet (first | (go_at_call 55; (with_reducible refine (Zau.calls (rd (Zae c g) m) (-1) (wrap64 (i - 1)) false _ aj.out).mono ?_); rintro e w' ⟨rfl, ⟨nd, rfl⟩⟩; (try first | exact dwD | exact dwE))); try go_wp2_with (first | (go_at_call 55; (with_reducible refine (Zau.calls (rd (Zae c g) m) (-1) (wrap64 (i - 1)) false _ aj.out).mono ?_); rintro e w' ⟨rfl, ⟨nd, rfl⟩⟩; (try first | exact dwD | exact dwE))))
        go_ret
        exact ⟨eW, bW⟩
       subst aK
       rw [if_pos rfl] at H
       have H' := mA H
       clear H
       have ch : wr.cell? ⟨b, 0, none⟩ = some (.int .i64 d) := bc a 0
       have ci : wr.cell? ⟨b, 1, none⟩ = some (.int .i64 j) := bc a 1
       have cj : wr.cell? ⟨b, 2, none⟩ = some (.int .i64 l) := bc a 2
       have ck : wr.cell? ⟨b, 3, none⟩ = some (.slice (some A) c.length o) := bc a 3
       have cm := Zab a.out 0
       have cn := Zab a.out 1
       have co := Zab a.out 2
       have cp := Zab a.out 3
       have E : 0 ≤ (g : Int) := ofD
       have G : g < (c.length : Int) := ofD
       obtain ⟨am, ae, af, ao, p, x, y⟩ := Zch z.out g E G
       obtain rfl : A = am := (by injection ao)
       (try (have a3 : ae = ac ∧ af = ad := (by have e_ := p.symm.trans n; simpa using e_)))
       replace p := (HB.out.cell (wB w p)).trans p
       have L := mA y
       have aV := mA x
       clear y x
       replace E := eq_true E
       replace G := eq_true G
       have I : 0 ≤ (m : Int) := ofD
       have J : m < ((Zae c g).length : Int) := ofD
       obtain ⟨a7, ap, s⟩ := zI L.out m I J
       cases ap
       replace s := (HB.out.cell (wB w s)).trans s
       replace I := eq_true I
       replace J := eq_true J
       go_wp2_with (first | (go_at_call 55; (with_reducible refine (Zau.calls (rd (Zae c g) m) (-1) (wrap64 (i - 1)) true _ aj.out).mono ?_); rintro e w' ⟨rfl, ⟨nd, rfl⟩⟩; (try first | exact dwD | exact dwE)))
       repeat (go_quiet (first | (go_at_call 55; (with_reducible refine (Zau.calls (rd (Zae c g) m) (-1) (wrap64 (i - 1)) true _ aj.out).mono ?_); rintro e w' ⟨rfl, ⟨nd, rfl⟩⟩; (try first | exact dwD | exact dwE))); try go_wp2_with (first | (go_at_call 55; (with_reducible refine (Zau.calls (rd (Zae c g) m) (-1) (wrap64 (i - 1)) true _ aj.out).mono ?_); rintro e w' ⟨rfl, ⟨nd, rfl⟩⟩; (try first | exact dwD | exact dwE))))
       go_roundg k3
       case measure => have := ax.out; have := az.out; have := aF.out; omega
       case rel => exact ⟨(wrap64 (m + 1)), (eW), H', ⟨by have := ax.out; have := az.out; have := aF.out; omega⟩, ⟨bP a.out⟩, ⟨bW⟩⟩
def Zcf.j0 : Nat → Bool → Int → List Int → Int → Int → Int → List (List Int) → Option (Int)
 | 0, _, _, _, _, _, _, _ => none
 | k + 1, x5, a, c, b, d, e, g => if x5 = true then (some 1) else (if b = a then (some 0) else (some 2))
def Zcf.f (k : Nat) (a : Int) (b : List Int) (c : Int) (d : Int) (e : Int) (g : List (List Int)) : Option (Int) := (Zba.f k a b).bind fun h => (if h = true then ((Zbb.f k c d e g).bind fun i => (Zcf.j0 k (!i) a b c d e g)) else (Zcf.j0 k true a b c d e g))
theorem Zcf.calls (k : Nat) (c : Int) (o : Option Addr) (p : Nat) (d : List Int) (g : Int) (q : Int) (s : Int) (u : Option Addr) (v : Nat) (l : List (List Int)) (r : Int) (w : World) (z : Kd.C (Kd.int .i64) w o d.length d) (A : d.length ≤ p) (B : Kd.C (Kd.slice 2 (Kd.int .i64)) w u l.length l) (D : l.length ≤ v) (h : Zcf.f k c d g q s l = some r) :
  Calls Tryd.prog 17 #[.agg #[.int .i64 c, .slice o d.length p], .agg #[.int .i64 g, .int .i64 q, .int .i64 s, .slice u l.length v]] w fun e w' => e = .returned (.int .i64 r) ∧ Below w.heap.size w w' := by
 have aY := Tryd.underlying32
 have aZ := Tryd.underlying34
 have E := mA z
 have G := mA A
 clear z A
 have L := mA B
 have M := mA D
 clear B D
 have HB := mA (Below.refl w.heap.size w)
 unfold Zcf.f at h
 have H := h
 clear h
 have J := mA H
 clear H
 go_enter Tryd.func17, Tryd.ntmps17
 go_upto_region 1 with (first | ((with_reducible refine Zap (N := 2) rfl ?_); refine boxS (N := 2) (cs := #[.int .i64 c, .slice o d.length p]) (t := 32) ?_; intro i hg w4 hbox hb; have a := mA (hbox); have aO := geW (w := w) hg; have aP := geW (w := w) hg; replace HB := mA (Zac (bW) hb); clear hb hbox hg) | ((with_reducible refine Zap (N := 3) rfl ?_); refine boxS (N := 3) (cs := #[.int .i64 g, .int .i64 q, .int .i64 s, .slice u l.length v]) (t := 34) ?_; intro j hg w5 hbox hb; have b := mA (hbox); have aQ := geW (w := w) hg; have aR := geW (w := w) hg; replace HB := mA (Zac (bW) hb); have m := mA (neB hg a); have n := mA (neC hg a); replace a := mA (blkB a.out hb); clear hb hbox hg))
 (try simp only [Act.put, List.setIfInBounds_toArray, List.set_cons_zero, List.set_cons_succ])
 go_cut [5] (fun v5 wc => ∃ (kq : Nat) (y : Bool), v5 = .bool y ∧ Zaa (Zcf.j0 kq y c d g q s l = some r) ∧ Zaa (kq ≤ k) ∧ Zaa (wc.heap[i]? = some (.cells #[.int .i64 c, (.slice o d.length p)] 32 (0, 0))) ∧ Zaa (wc.heap[j]? = some (.cells #[.int .i64 g, .int .i64 q, .int .i64 s, (.slice u l.length v)] 34 (0, 0))) ∧ Zaa (Below w.heap.size w wc))
 case first =>
  have H := J.out
  clear J
  replace H := bE H
  obtain ⟨W, T, H⟩ := H
  have A6 := mA T
  clear T
  by_cases c7 : W = true; rotate_left
  ·replace c7 := Bool.eq_false_iff.mpr c7
   subst c7
   rw [iF] at H
   have H' := mA H
   clear H
   have aS := m.out
   have aT := n.out
   have X : w5.cell? ⟨i, 0, none⟩ = some (.int .i64 c) := bc a 0
   have Y : w5.cell? ⟨i, 1, none⟩ = some (.slice o d.length p) := bc a 1
   have aa := Zab a.out 0
   have ab := Zab a.out 1
   go_wp2_with (first | ((with_reducible refine Zav (f := 36) rfl ?_); refine Zbo (some 7) Tryd.func36 #[.agg #[.int .i64 c, .slice o d.length p]] ?_; (with_reducible refine (Zba.calls k c _ _ d false _ ?side1 ?side2 A6.out).mono ?_); (case side1 => exact cP (zF E.out HB.out)); (case side2 => exact G.out); rintro e a2 ⟨rfl, hb⟩; refine ⟨_, rfl, ?_⟩; replace a := mA (blkB a.out hb); replace b := mA (blkB b.out hb); replace HB := mA (Zac (bW) hb); (try clear hb); (try clear hb2); (try clear hk); (try clear hi)))
   go_meet
   case rel => exact ⟨_, (true), (eW), H', ⟨by first | omega | exact Nat.le_refl _⟩, ⟨bP a.out⟩, ⟨bP b.out⟩, ⟨bW⟩⟩
  subst c7
  rw [if_pos rfl] at H
  replace H := bE H
  obtain ⟨K, U, H⟩ := H
  have A8 := mA U
  clear U
  have H' := mA H
  clear H
  have a0 := m.out
  have a1 := n.out
  have ac : w5.cell? ⟨i, 0, none⟩ = some (.int .i64 c) := bc a 0
  have ad : w5.cell? ⟨i, 1, none⟩ = some (.slice o d.length p) := bc a 1
  have ae := Zab a.out 0
  have af := Zab a.out 1
  go_wp2_with (first | ((with_reducible refine Zav (f := 36) rfl ?_); refine Zbo (some 7) Tryd.func36 #[.agg #[.int .i64 c, .slice o d.length p]] ?_; (with_reducible refine (Zba.calls k c _ _ d true _ ?side1 ?side2 A6.out).mono ?_); (case side1 => exact cP (zF E.out HB.out)); (case side2 => exact G.out); rintro e a3 ⟨rfl, hb⟩; refine ⟨_, rfl, ?_⟩; replace a := mA (blkB a.out hb); replace b := mA (blkB b.out hb); replace HB := mA (Zac (bW) hb); (try clear hb); (try clear hb2); (try clear hk); (try clear hi); obtain ⟨ag, ah, ai, aj⟩ := Zbi b.out; obtain ⟨ak, al, am, an⟩ := frz4 b.out) | (go_at_call 37; (with_reducible refine (Zbb.calls k g q s _ _ l K _ ?side1 ?side2 A8.out).mono ?_); (case side1 => exact cP (zF L.out HB.out)); (case side2 => exact M.out); rintro e a4 ⟨rfl, hb⟩; replace a := mA (blkB a.out hb); replace b := mA (blkB b.out hb); replace HB := mA (Zac (bW) hb); (try clear hb); (try clear hb2); (try clear hk); (try clear hi)))
  go_meet
  case rel => exact ⟨_, (!K), (eW), H', ⟨by first | omega | exact Nat.le_refl _⟩, ⟨bP a.out⟩, ⟨bP b.out⟩, ⟨bW⟩⟩
 case rest =>
  clear J
  obtain ⟨kq, y, rfl, HA, a5, a, b, HB⟩ := hcut
  cases kq with
  | zero => exact absurd HA.out (by simp [Zcf.j0])
  | succ a6 =>
   have H := HA.out
   clear HA
   simp only [Zcf.j0] at H
   by_cases I : y = true
   ·subst I
    rw [if_pos rfl] at H
    obtain rfl := oI H
    go_wp2
    go_ret
    exact ⟨eW, bW⟩
   replace I := Bool.eq_false_iff.mpr I
   subst I
   rw [iF] at H
   by_cases x : g = c; rotate_left
   ·rw [if_neg x] at H
    have O : (g == c) = false := beq_eq_false_iff_ne.mpr x
    have P : (g != c) = true := bne_iff_ne.mpr x
    obtain rfl := oI H
    have aU := n.out
    have aV := m.out
    have ao : wc.cell? ⟨j, 0, none⟩ = some (.int .i64 g) := bc b 0
    have ap : wc.cell? ⟨j, 1, none⟩ = some (.int .i64 q) := bc b 1
    have aq : wc.cell? ⟨j, 2, none⟩ = some (.int .i64 s) := bc b 2
    have ar : wc.cell? ⟨j, 3, none⟩ = some (.slice u l.length v) := bc b 3
    have au := Zab b.out 0
    have av := Zab b.out 1
    have aw := Zab b.out 2
    have ax := Zab b.out 3
    have ay : wc.cell? ⟨i, 0, none⟩ = some (.int .i64 c) := bc a 0
    have az : wc.cell? ⟨i, 1, none⟩ = some (.slice o d.length p) := bc a 1
    have aA := Zab a.out 0
    have aB := Zab a.out 1
    go_wp2
    go_ret
    exact ⟨eW, bW⟩
   rw [if_pos x] at H
   have O : (g == c) = true := beq_iff_eq.mpr x
   have P : (g != c) = false := bne_eq_false_iff_eq.mpr x
   clear x
   obtain rfl := oI H
   have aW := n.out
   have aX := m.out
   have aC : wc.cell? ⟨j, 0, none⟩ = some (.int .i64 g) := bc b 0
   have aD : wc.cell? ⟨j, 1, none⟩ = some (.int .i64 q) := bc b 1
   have aE : wc.cell? ⟨j, 2, none⟩ = some (.int .i64 s) := bc b 2
   have aF : wc.cell? ⟨j, 3, none⟩ = some (.slice u l.length v) := bc b 3
   have aG := Zab b.out 0
   have aH := Zab b.out 1
   have aI := Zab b.out 2
   have aJ := Zab b.out 3
   have aK : wc.cell? ⟨i, 0, none⟩ = some (.int .i64 c) := bc a 0
   have aL : wc.cell? ⟨i, 1, none⟩ = some (.slice o d.length p) := bc a 1
   have aM := Zab a.out 0
   have aN := Zab a.out 1
   go_wp2
   go_ret
   exact ⟨eW, bW⟩
end Go.Proofs.YtgindgodfcfgkaaDoor.P
end M0
section M1
namespace Go.Proofs.YtgindgodfcfgkaaDoor.P
open Go.RowKit Go.Proofs.YtgindgodfcfgkaaDoor.Sh Go.Proofs.YtgindgodfcfgkaaDoorW.PrintWords Go.Proofs.YtgindgodfcfgkaaDoorW.PrintLast Go.Proofs.YtgindgodfcfgkaaDoorW.PrintMore
open Kd
attribute [local go_sem] Zcd Zca Zcn Zcm Zb1 Zb2 Zcc Zce   -- for this text's walks alone
set_option linter.unusedVariables false
set_option linter.unusedSimpArgs false
mutual
def Za1.l0 : Nat → List Bool → Bool → Int → List (List Int) → List Bool → Option (List Bool)
 | 0, _, _, _, _, _ => none
 | k + 1, x3, x4, a, b, c => if x4 = true then (Za1.l1 k x3 false 0 a b c) else (some x3)
def Za1.l1 : Nat → List Bool → Bool → Int → Int → List (List Int) → List Bool → Option (List Bool)
 | 0, _, _, _, _, _, _ => none
 | k + 1, x3, x4, x5, b, a, c => if x5 < (a.length : Int) then (Za1.l2 k x3 x4 x5 0 b a c) else (Za1.l0 k x3 x4 b a c)
def Za1.l2 : Nat → List Bool → Bool → Int → Int → Int → List (List Int) → List Bool → Option (List Bool)
 | 0, _, _, _, _, _, _, _ => none
 | k + 1, x3, x4, x5, x6, b, a, c => if 0 ≤ x5 then (if x5 < (a.length : Int) then (if x6 < ((Zae a x5).length : Int) then (if x5 < (x3.length : Int) then (Za1.j3 k x3 x4 x5 x6 (!(rdOf false x3 x5)) b a c) else (none)) else (Za1.j3 k x3 x4 x5 x6 false b a c)) else (none)) else (none)
def Za1.j3 : Nat → List Bool → Bool → Int → Int → Bool → Int → List (List Int) → List Bool → Option (List Bool)
 | 0, _, _, _, _, _, _, _, _ => none
 | k + 1, x3, x4, x5, x6, d, b, a, c => if d = true then (if 0 ≤ x5 then (if x5 < (a.length : Int) then (if 0 ≤ x6 then (if x6 < ((Zae a x5).length : Int) then (if (rd (Zae a x5) x6) ≥ 0 then (if 0 ≤ (rd (Zae a x5) x6) then (if (rd (Zae a x5) x6) < (x3.length : Int) then (if rdOf false x3 (rd (Zae a x5) x6) = true then (if x5 < (x3.length : Int) then (Za1.l2 k (x3.set (x5 : Int).toNat true) true x5 (wrap64 (x6 + 1)) b a c) else (none)) else (Za1.l2 k x3 x4 x5 (wrap64 (x6 + 1)) b a c)) else (none)) else (none)) else (Za1.l2 k x3 x4 x5 (wrap64 (x6 + 1)) b a c)) else (none)) else (none)) else (none)) else (none)) else (Za1.l1 k x3 x4 (wrap64 (x5 + 1)) b a c)
end
def Za1.f (k : Nat) (c : Int) (d : List (List Int)) (a : List Bool) : Option (List Bool) := (some (([] : List Bool) : List Bool)).bind fun b => (if b.length + a.length < 140737488355328 then (Za1.l0 k (b ++ a) true c d a) else (none))
theorem Za1.calls (k : Nat) (n : Int) (z : Option Addr) (v : Nat) (d : List (List Int)) (x : Option Addr) (y : Nat) (l : List Bool) (r : List Bool) (w : World) (aM : Kd.C (Kd.slice 2 (Kd.int .i64)) w z d.length d) (aN : d.length ≤ v) (aP : Kd.C Kd.bool w x l.length l) (aQ : l.length ≤ y) (h : Za1.f k n d l = some r) :
  Calls Tryd.prog 80 #[.agg #[.int .i64 n, .slice z d.length v, .slice x l.length y]] w fun e w' => ∃ bJ : Value, e = .returned (bJ) ∧ Kd.R Kd.bool 4 w' w.heap.size (fun _ => True) bJ r ∧ Below w.heap.size w w' := by
 have cR := Tryd.underlying69
 have ad := mA aM
 have cC := mA aN
 clear aM aN
 have bB := mA aP
 have cD := mA aQ
 clear aP aQ
 have HB := mA (Below.refl w.heap.size w)
 unfold Za1.f at h
 have H := h
 clear h
 obtain ⟨aC, am⟩ : ∃ y_ : List Bool, y_ = (([] : List Bool)) := ⟨_, rfl⟩
 replace H := bsm am H
 have aT := mA am
 clear am
 by_cases c2 : aC.length + l.length < 140737488355328; rotate_left
 ·rw [if_neg c2] at H
  exact absurd H (by simp)
 rw [if_pos c2] at H
 have bK := mA c2
 clear c2
 obtain ⟨bL, an⟩ : ∃ y_ : List Bool, y_ = (aC ++ l) := ⟨_, rfl⟩
 rw [← an] at H
 have bC := mA an
 clear an
 have H' := mA H
 clear H
 go_enter Tryd.func80, Tryd.ntmps80
 go_wp2_with (first | ((with_reducible refine Zap (N := 1) rfl ?_); refine boxS (N := 1) (cs := #[.int .i64 n, .slice z d.length v, .slice x l.length y]) (t := 69) ?_; intro i hg w3 hbox hb; have a := mA (hbox); have cE := geW (w := w) hg; have cF := geW (w := w) hg; replace HB := mA (Zac (bW) hb); clear hb hbox hg) | ((with_reducible refine Zap (N := 8) rfl ?_); refine yT Kd.bool _ 4 ?hg (N := 8) ?hd (xs := ([] : List Bool)) (inner := []) (ok := fun _ => True) (okp := fun _ => True) ?hr ?hp (fun _ hk => hk) trivial (Below.refl _ _) (Nat.le_refl _) (by simp) ?_; (case hd => rfl); (case hg => rfl); (case hr => first | (go_simp; done) | (go_simp; rfl)); (case hp => exact (Reps.none _ _)); intro bM w4 ay hb hg_ hnew_; clear hg_ hnew_; (first | rw [← aT.out] at ay | (simp only [Int.reduceToNat] at ay; rw [← aT.out] at ay)); have ao := mA (zP ay (Zag (bW))); replace a := mA (blkB a.out hb); replace HB := mA (Zac (bW) hb); clear hb ay; obtain ⟨bj, bk, bl⟩ := cells3 a.out; obtain ⟨bm, bn, bo⟩ := frz3 a.out) | ((with_reducible refine Zbl (b := .append) (xs := #[.tmp 8, .tmp 10]) rfl ?_); at_builtin; refine qA Kd.bool (w0 := w) w.heap.size rfl (.tmp 8) (.tmp 10) 46 4 (.bool false) 1 rfl Tryd.underlying46 info4 rfl (by decide) (by omega) bM aC l _ _ _ (fun _ => True) (fun _ => False) rfl rfl ?aO ?aR (fun _ _ h => h) (fun _ h => h.elim) ?aF ?aB ?aS ?aL ?_; (case aR => exact cP (zF bB.out HB.out)); (case aB => exact (bW)); (case aF => exact (fun _ _ => trivial)); (case aO => exact (rP ao.out)); (case aS => exact (Zag (bW))); (case aL => have := bK.out; omega); intro ap w7 ho hb hg hat; rw [← bC.out] at ho; replace a := mA (Zaq (g := i) (o := .cells #[.int .i64 n, .slice z d.length v, .slice x l.length y] 69 (0, 0)) (bP a.out) hg (zO ao.out a.out (by decide))); replace HB := mA (hb); have bD := mA (ho); clear ao ho hb hg hat))
 go_loopg [4] k (fun kq v4 w' => ∃ (aq : List Bool) (ar : Bool), v4 = .bool ar ∧ Zaa (Za1.l0 kq aq ar n d l = some r) ∧ Zaa (kq ≤ k) ∧ Zaa (Kd.R Kd.bool 4 w' w.heap.size (fun _ => True) ap aq) ∧ Zaa (w'.heap[i]? = some (.cells #[.int .i64 n, (.slice z d.length v), (.slice x l.length y)] 69 (0, 0))) ∧ Zaa (Below w.heap.size w w'))
 case atStart => exact ⟨(bL), (true), (eW), H', ⟨Nat.le_refl _⟩, ⟨rP bD.out⟩, ⟨bP a.out⟩, ⟨bW⟩⟩
 case round =>
  clear H' bj bk bl bm bn bo
  obtain ⟨aq, ar, rfl, HA, O, m, a, HB⟩ := hrel
  cases gk with
  | zero => exact absurd HA.out (by simp [Za1.l0])
  | succ k1 =>
   have H := HA.out
   clear HA
   simp only [Za1.l0] at H
   by_cases c8 : ar = true; rotate_left
   ·replace c8 := Bool.eq_false_iff.mpr c8
    subst c8
    rw [iF] at H
    obtain rfl := oI H
    go_wp2
    go_ret
    exact ⟨_, eW, (rP m.out), bW⟩
   subst c8
   rw [if_pos rfl] at H
   have H' := mA H
   clear H
   go_wp2
   go_loopg [4, 5] k1 (fun kq v4 v5 w' => ∃ (af : List Bool) (ag : Bool) (c : Int), v4 = .bool ag ∧ v5 = .int .i64 c ∧ Zaa (Za1.l1 kq af ag c n d l = some r) ∧ Zaa (kq ≤ k1) ∧ Zaa (Kd.R Kd.bool 4 w' w.heap.size (fun _ => True) ap af) ∧ Zaa (w'.heap[i]? = some (.cells #[.int .i64 n, (.slice z d.length v), (.slice x l.length y)] 69 (0, 0))) ∧ Zaa (Below w.heap.size w w'))
   case atStart => exact ⟨(aq), (false), (0), (eW), (eW), H', ⟨Nat.le_refl _⟩, ⟨rP m.out⟩, ⟨bP a.out⟩, ⟨bW⟩⟩
   case round =>
    clear H'
    obtain ⟨af, ag, c, rfl, rfl, HA, P, m, a, HB⟩ := hrel
    cases gk with
    | zero => exact absurd HA.out (by simp [Za1.l1])
    | succ k2 =>
     have H := HA.out
     clear HA
     simp only [Za1.l1] at H
     by_cases c9 : c < (d.length : Int); rotate_left
     ·rw [if_neg c9] at H
      have bp := dF c9
      clear c9
      have H' := mA H
      clear H
      have bX : wr.cell? ⟨i, 0, none⟩ = some (.int .i64 n) := bc a 0
      have bY : wr.cell? ⟨i, 1, none⟩ = some (.slice z d.length v) := bc a 1
      have bZ : wr.cell? ⟨i, 2, none⟩ = some (.slice x l.length y) := bc a 2
      have b0 := Zab a.out 0
      have b1 := Zab a.out 1
      have b2 := Zab a.out 2
      go_wp2
      go_roundg k2
      case measure => have := O.out; have := P.out; omega
      case rel => exact ⟨(af), (ag), (eW), H', ⟨by have := O.out; have := P.out; omega⟩, ⟨rP m.out⟩, ⟨bP a.out⟩, ⟨bW⟩⟩
     rw [if_pos c9] at H
     have bp := dT c9
     clear c9
     have H' := mA H
     clear H
     have a9 : wr.cell? ⟨i, 0, none⟩ = some (.int .i64 n) := bc a 0
     have ba : wr.cell? ⟨i, 1, none⟩ = some (.slice z d.length v) := bc a 1
     have bb : wr.cell? ⟨i, 2, none⟩ = some (.slice x l.length y) := bc a 2
     have bd := Zab a.out 0
     have bf := Zab a.out 1
     have bg := Zab a.out 2
     go_wp2
     go_loopg [4, 6] k2 (fun kq v4 v6 w' => ∃ (u : List Bool) (X : Bool) (j : Int), v4 = .bool X ∧ v6 = .int .i64 j ∧ Zaa (Za1.l2 kq u X c j n d l = some r) ∧ Zaa (kq ≤ k2) ∧ Zaa (Kd.R Kd.bool 4 w' w.heap.size (fun _ => True) ap u) ∧ Zaa (w'.heap[i]? = some (.cells #[.int .i64 n, (.slice z d.length v), (.slice x l.length y)] 69 (0, 0))) ∧ Zaa (Below w.heap.size w w'))
     case atStart => exact ⟨(af), (ag), (0), (eW), (eW), H', ⟨Nat.le_refl _⟩, ⟨rP m.out⟩, ⟨bP a.out⟩, ⟨bW⟩⟩
     case round =>
      clear H' bp a9 ba bb bd bf bg
      obtain ⟨u, X, j, rfl, rfl, HA, W, m, a, HB⟩ := hrel
      cases gk with
      | zero => exact absurd HA.out (by simp [Za1.l2])
      | succ k3 =>
       have H := HA.out
       clear HA
       simp only [Za1.l2] at H
       have aD := mA H
       clear H
       go_upto_region 9 with (fail)
       go_cut [34] (fun v34 wc => ∃ (kq : Nat) (ae : Bool), v34 = .bool ae ∧ Zaa (Za1.j3 kq u X c j ae n d l = some r) ∧ Zaa (kq ≤ k3) ∧ Zaa (Kd.R Kd.bool 4 wc w.heap.size (fun _ => True) ap u) ∧ Zaa (wc.heap[i]? = some (.cells #[.int .i64 n, (.slice z d.length v), (.slice x l.length y)] 69 (0, 0))) ∧ Zaa (Below w.heap.size w wc))
       case first =>
        have H := aD.out
        clear aD
        by_cases aU : 0 ≤ c; rotate_left
        ·rw [if_neg aU] at H
         exact absurd H (by simp)
        rw [if_pos aU] at H
        have aV := dT aU
        clear aU
        (first | rw [aV] | (simp only [i64_w, i32_w]; rw [aV]) | skip)
        by_cases aW : c < (d.length : Int); rotate_left
        ·rw [if_neg aW] at H
         exact absurd H (by simp)
        rw [if_pos aW] at H
        have cG := dT aW
        clear aW
        by_cases aj : j < ((Zae d c).length : Int); rotate_left
        ·rw [if_neg aj] at H
         have bE := dF aj
         clear aj
         have H' := mA H
         clear H
         have b3 : wr.cell? ⟨i, 0, none⟩ = some (.int .i64 n) := bc a 0
         have b4 : wr.cell? ⟨i, 1, none⟩ = some (.slice z d.length v) := bc a 1
         have b5 : wr.cell? ⟨i, 2, none⟩ = some (.slice x l.length y) := bc a 2
         have b6 := Zab a.out 0
         have b7 := Zab a.out 1
         have b8 := Zab a.out 2
         have Y : 0 ≤ (c : Int) := ofD
         have aa : c < (d.length : Int) := ofD
         obtain ⟨bF, bq, br, aE, D, K, L⟩ := Zch ad.out c Y aa
         cases aE
         replace D := (HB.out.cell (wB w D)).trans D
         have bh := mA L
         have bi := mA K
         clear L K
         replace Y := eq_true Y
         replace aa := eq_true aa
         go_wp2
         go_meet
         case rel => exact ⟨_, (false), (eW), H', ⟨by have := O.out; have := P.out; have := W.out; first | omega | exact Nat.le_refl _⟩, ⟨rP m.out⟩, ⟨bP a.out⟩, ⟨bW⟩⟩
        rw [if_pos aj] at H
        have bE := dT aj
        clear aj
        by_cases aX : c < (u.length : Int); rotate_left
        ·rw [if_neg aX] at H
         exact absurd H (by simp)
        rw [if_pos aX] at H
        have cH := dT aX
        clear aX
        have H' := mA H
        clear H
        have b9 : wr.cell? ⟨i, 0, none⟩ = some (.int .i64 n) := bc a 0
        have ca : wr.cell? ⟨i, 1, none⟩ = some (.slice z d.length v) := bc a 1
        have cb : wr.cell? ⟨i, 2, none⟩ = some (.slice x l.length y) := bc a 2
        have cc := Zab a.out 0
        have cd := Zab a.out 1
        have ce := Zab a.out 2
        have Y : 0 ≤ (c : Int) := ofD
        have aa : c < (d.length : Int) := ofD
        obtain ⟨bF, bq, br, aE, D, K, L⟩ := Zch ad.out c Y aa
        cases aE
        replace D := (HB.out.cell (wB w D)).trans D
        have bh := mA L
        have bi := mA K
        clear L K
        replace Y := eq_true Y
        replace aa := eq_true aa
        obtain ⟨cS, cT, bN⟩ := zJ m.out
        subst bN
        have aG : 0 ≤ (c : Int) := ofD
        have aH : c < (u.length : Int) := ofD
        obtain ⟨cI, bO, cf⟩ := yF (zE m.out).2.2 c aG aH
        cases bO
        replace aG := eq_true aG
        replace aH := eq_true aH
        go_wp2
        go_meet
        case rel => exact ⟨_, (!(rdOf false u c)), (eW), H', ⟨by have := O.out; have := P.out; have := W.out; first | omega | exact Nat.le_refl _⟩, ⟨rP m.out⟩, ⟨bP a.out⟩, ⟨bW⟩⟩
       case rest =>
        clear aD
        obtain ⟨kq, ae, rfl, HA, T, m, a, HB⟩ := hcut
        cases kq with
        | zero => exact absurd HA.out (by simp [Za1.j3])
        | succ au =>
         have H := HA.out
         clear HA
         simp only [Za1.j3] at H
         by_cases aY : ae = true; rotate_left
         ·replace aY := Bool.eq_false_iff.mpr aY
          subst aY
          rw [iF] at H
          have H' := mA H
          clear H
          go_wp2
          go_roundg au
          case measure => have := O.out; have := P.out; have := W.out; have := T.out; omega
          case rel => exact ⟨(u), (X), (wrap64 (c + 1)), (eW), (eW), H', ⟨by have := O.out; have := P.out; have := W.out; have := T.out; omega⟩, ⟨rP m.out⟩, ⟨bP a.out⟩, ⟨bW⟩⟩
         subst aY
         rw [if_pos rfl] at H
         by_cases aZ : 0 ≤ c; rotate_left
         ·rw [if_neg aZ] at H
          exact absurd H (by simp)
         rw [if_pos aZ] at H
         have cJ := dT aZ
         clear aZ
         by_cases a0 : c < (d.length : Int); rotate_left
         ·rw [if_neg a0] at H
          exact absurd H (by simp)
         rw [if_pos a0] at H
         have cK := dT a0
         clear a0
         by_cases a1 : 0 ≤ j; rotate_left
         ·rw [if_neg a1] at H
          exact absurd H (by simp)
         rw [if_pos a1] at H
         have cL := dT a1
         clear a1
         by_cases a2 : j < ((Zae d c).length : Int); rotate_left
         ·rw [if_neg a2] at H
          exact absurd H (by simp)
         rw [if_pos a2] at H
         have cM := dT a2
         clear a2
         by_cases ak : (rd (Zae d c) j) ≥ 0; rotate_left
         ·rw [if_neg ak] at H
          have bG : decide (0 ≤ (rd (Zae d c) j)) = false := dF ak
          clear ak
          have H' := mA H
          clear H
          have cg : wc.cell? ⟨i, 0, none⟩ = some (.int .i64 n) := bc a 0
          have ch : wc.cell? ⟨i, 1, none⟩ = some (.slice z d.length v) := bc a 1
          have ci : wc.cell? ⟨i, 2, none⟩ = some (.slice x l.length y) := bc a 2
          have cj := Zab a.out 0
          have ck := Zab a.out 1
          have cm := Zab a.out 2
          have E : 0 ≤ (c : Int) := ofD
          have G : c < (d.length : Int) := ofD
          obtain ⟨av, az, aA, ah, q, A, B⟩ := Zch ad.out c E G
          cases ah
          replace q := (HB.out.cell (wB w q)).trans q
          have M := mA B
          have al := mA A
          clear B A
          replace E := eq_true E
          replace G := eq_true G
          have I : 0 ≤ (j : Int) := ofD
          have J : j < ((Zae d c).length : Int) := ofD
          obtain ⟨a3, ai, s⟩ := zI M.out j I J
          cases ai
          replace s := (HB.out.cell (wB w s)).trans s
          replace I := eq_true I
          replace J := eq_true J
          go_wp2
          go_roundg au
          case measure => have := O.out; have := P.out; have := W.out; have := T.out; omega
          case rel => exact ⟨(u), (X), (wrap64 (j + 1)), (eW), (eW), H', ⟨by have := O.out; have := P.out; have := W.out; have := T.out; omega⟩, ⟨rP m.out⟩, ⟨bP a.out⟩, ⟨bW⟩⟩
         rw [if_pos ak] at H
         have bG : decide (0 ≤ (rd (Zae d c) j)) = true := dT ak
         clear ak
         by_cases a4 : 0 ≤ (rd (Zae d c) j); rotate_left
         ·rw [if_neg a4] at H
          exact absurd H (by simp)
         rw [if_pos a4] at H
         have cN := dT a4
         clear a4
         by_cases a5 : (rd (Zae d c) j) < (u.length : Int); rotate_left
         ·rw [if_neg a5] at H
          exact absurd H (by simp)
         rw [if_pos a5] at H
         have cO := dT a5
         clear a5
         obtain ⟨bQ, aw⟩ : ∃ b_ : Bool, b_ = (rdOf false u (rd (Zae d c) j)) := ⟨_, rfl⟩
         rw [← aw] at H
         have a6 := mA aw
         clear aw
         by_cases a7 : bQ = true; rotate_left
         ·replace a7 := Bool.eq_false_iff.mpr a7
          subst a7
          rw [iF] at H
          have H' := mA H
          clear H
          have cn : wc.cell? ⟨i, 0, none⟩ = some (.int .i64 n) := bc a 0
          have co : wc.cell? ⟨i, 1, none⟩ = some (.slice z d.length v) := bc a 1
          have cp : wc.cell? ⟨i, 2, none⟩ = some (.slice x l.length y) := bc a 2
          have cq := Zab a.out 0
          have cr := Zab a.out 1
          have ct := Zab a.out 2
          have E : 0 ≤ (c : Int) := ofD
          have G : c < (d.length : Int) := ofD
          obtain ⟨av, az, aA, ah, q, A, B⟩ := Zch ad.out c E G
          cases ah
          replace q := (HB.out.cell (wB w q)).trans q
          have M := mA B
          have al := mA A
          clear B A
          replace E := eq_true E
          replace G := eq_true G
          have I : 0 ≤ (j : Int) := ofD
          have J : j < ((Zae d c).length : Int) := ofD
          obtain ⟨a3, ai, s⟩ := zI M.out j I J
          cases ai
          replace s := (HB.out.cell (wB w s)).trans s
          replace I := eq_true I
          replace J := eq_true J
          obtain ⟨cU, cV, bR⟩ := zJ m.out
          subst bR
          have ab : 0 ≤ ((rd (Zae d c) j) : Int) := ofD
          have ac : (rd (Zae d c) j) < (u.length : Int) := ofD
          obtain ⟨bH, aI, U⟩ := yF (zE m.out).2.2 (rd (Zae d c) j) ab ac
          (try rw [← a6.out] at U)
          cases aI
          replace ab := eq_true ab
          replace ac := eq_true ac
          go_wp2
          go_roundg au
          case measure => have := O.out; have := P.out; have := W.out; have := T.out; omega
          case rel => exact ⟨(u), (X), (wrap64 (j + 1)), (eW), (eW), H', ⟨by have := O.out; have := P.out; have := W.out; have := T.out; omega⟩, ⟨rP m.out⟩, ⟨bP a.out⟩, ⟨bW⟩⟩
         subst a7
         rw [if_pos rfl] at H
         by_cases a8 : c < (u.length : Int); rotate_left
         ·rw [if_neg a8] at H
          exact absurd H (by simp)
         rw [if_pos a8] at H
         have cQ := dT a8
         clear a8
         obtain ⟨bs, ax⟩ : ∃ y_ : List Bool, y_ = (u.set (c : Int).toNat true) := ⟨_, rfl⟩
         rw [← ax] at H
         have bI := mA ax
         clear ax
         have H' := mA H
         clear H
         have cu : wc.cell? ⟨i, 0, none⟩ = some (.int .i64 n) := bc a 0
         have cv : wc.cell? ⟨i, 1, none⟩ = some (.slice z d.length v) := bc a 1
         have cw : wc.cell? ⟨i, 2, none⟩ = some (.slice x l.length y) := bc a 2
         have cx := Zab a.out 0
         have cy := Zab a.out 1
         have cz := Zab a.out 2
         have E : 0 ≤ (c : Int) := ofD
         have G : c < (d.length : Int) := ofD
         obtain ⟨av, az, aA, ah, q, A, B⟩ := Zch ad.out c E G
         cases ah
         replace q := (HB.out.cell (wB w q)).trans q
         have M := mA B
         have al := mA A
         clear B A
         replace E := eq_true E
         replace G := eq_true G
         have I : 0 ≤ (j : Int) := ofD
         have J : j < ((Zae d c).length : Int) := ofD
         obtain ⟨a3, ai, s⟩ := zI M.out j I J
         cases ai
         replace s := (HB.out.cell (wB w s)).trans s
         replace I := eq_true I
         replace J := eq_true J
         obtain ⟨cW, bS, bT⟩ := zJ m.out
         subst bT
         have ab : 0 ≤ ((rd (Zae d c) j) : Int) := ofD
         have ac : (rd (Zae d c) j) < (u.length : Int) := ofD
         obtain ⟨bH, aI, U⟩ := yF (zE m.out).2.2 (rd (Zae d c) j) ab ac
         (try rw [← a6.out] at U)
         cases aI
         replace ab := eq_true ab
         replace ac := eq_true ac
         have bu : 0 ≤ (c : Int) := ofD
         have bv : (c : Int) < ((u.length : Int) : Int) := ofD
         obtain ⟨aJ, cX, bw, bx, bU, cY, bz⟩ := yV m.out (by omega)
         (first | cases bw | (injection bw with ea_ en_ ec_; (first | subst ea_ | (injection ea_ with ea_; subst ea_)); subst ec_; clear en_))
         have bV := mA bx
         have cZ := mA bz
         clear bx bU bz
         (first | simp only [Zco] at U | skip)
         obtain ⟨cA, cB⟩ := yH false m.out (c : Int) bu bv
         replace bu := eq_true bu
         replace bv := eq_true bv
         have aK := yN m.out (c : Int) true
         go_wp2_with (first | ((with_reducible refine Zbp (t := 4) (p := 55) rfl ?_); refine Zdi (t := 4) (p := 55) (w1 := (wc.setCell ⟨aJ, (c : Int).toNat, none⟩ (.bool true))) ?_; intro bA hw; have hg : wc.grownBy bA (some aJ) := (by rw [hw]; exact aK.2); have hp_ : Kd.R Kd.bool 4 bA w.heap.size (fun _ => True) (.slice (some ⟨aJ, 0, none⟩) u.length bS) bs := (by rw [hw, bI.out]; exact aK.1); clear aK; replace a := mA (Zaq (g := i) (o := .cells #[.int .i64 n, .slice (some av) d.length v, .slice x l.length y] 69 (0, 0)) (bP a.out) hg (zO m.out a.out (by decide))); replace m := mA (hp_); replace HB := mA ((by rw [hw]; exact Zbs (HB.out) bV.out : Below w.heap.size w bA)); clear hg hw hp_))
         go_roundg au
         case measure => have := O.out; have := P.out; have := W.out; have := T.out; omega
         case rel => exact ⟨(bs), (true), (wrap64 (j + 1)), (eW), (eW), H', ⟨by have := O.out; have := P.out; have := W.out; have := T.out; omega⟩, ⟨rP m.out⟩, ⟨bP a.out⟩, ⟨bW⟩⟩
def Zbf.f (l0 : List Int) (a1 : Int) : Option (Int) := if a1 < 0 then (some (-1)) else (if 0 ≤ a1 then (if a1 < (l0.length : Int) then (some (rd l0 a1)) else (none)) else (none))
theorem Zbf.calls (A0 : Option Addr) (c0 : Nat) (l0 : List Int) (a1 : Int) (r : Int) (w : World) (c : Kd.C (Kd.int .i64) w A0 l0.length l0) (d : l0.length ≤ c0) (h : Zbf.f l0 a1 = some r) :
  Calls Tryd.prog 69 #[.slice A0 l0.length c0, .int .i64 a1] w fun e w' => e = .returned (.int .i64 r) ∧ Zar w w' := by
 have k := mA c
 have o := mA d
 clear c d
 unfold Zbf.f at h
 have H := h
 clear h
 by_cases c3 : a1 < 0
 ·rw [if_pos c3] at H
  have g := dT c3
  clear c3
  obtain rfl := oI H
  go_enter Tryd.func69, Tryd.ntmps69
  go_wp2
  go_ret
  exact ⟨eW, by repeat (first | exact Zar.refl _ | apply Zar.step)⟩
 rw [if_neg c3] at H
 have g := dF c3
 clear c3
 by_cases c4 : 0 ≤ a1; rotate_left
 ·rw [if_neg c4] at H
  exact absurd H (by simp)
 rw [if_pos c4] at H
 have m := dT c4
 clear c4
 by_cases c5 : a1 < (l0.length : Int); rotate_left
 ·rw [if_neg c5] at H
  exact absurd H (by simp)
 rw [if_pos c5] at H
 have n := dT c5
 clear c5
 obtain rfl := oI H
 have a : 0 ≤ (a1 : Int) := ofD
 have b : a1 < (l0.length : Int) := ofD
 obtain ⟨l, i, j⟩ := zI k.out a1 a b
 cases i
 replace a := eq_true a
 replace b := eq_true b
 go_enter Tryd.func69, Tryd.ntmps69
 go_wp2
 go_ret
 exact ⟨eW, by repeat (first | exact Zar.refl _ | apply Zar.step)⟩
end Go.Proofs.YtgindgodfcfgkaaDoor.P
end M1
