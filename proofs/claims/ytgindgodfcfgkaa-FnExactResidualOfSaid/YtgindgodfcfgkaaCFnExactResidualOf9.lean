import Derived.Test.YtgindgodfcfgkaaCFnExactResidualOf2
set_option maxHeartbeats 8000000
set_option maxRecDepth 100000
section M0
namespace Go.Proofs.Ytgindgodfcfgkaa.P
open Go.RowKit Go.Proofs.Ytgindgodfcfgkaa.Sh Go.Proofs.YtgindgodfcfgkaaW.PrintWords Go.Proofs.YtgindgodfcfgkaaW.PrintLast Go.Proofs.YtgindgodfcfgkaaW.PrintMore
open Kd
attribute [local go_sem] Zcc Zcd Zck Zcl Zb2 Zb3 Zce Zcb   -- for this text's walks alone
set_option linter.unusedVariables false
set_option linter.unusedSimpArgs false
mutual
def Za4.j0 : Nat → Int → Bool → Int → Int → Int → List (List Int) → Option (Bool)
 | 0, _, _, _, _, _, _ => none
 | k + 1, x3, e, a, b, c, d => if e = true then (some false) else (Za4.l0 k x3 0 a b c d)
def Za4.l0 : Nat → Int → Int → Int → Int → Int → List (List Int) → Option (Bool)
 | 0, _, _, _, _, _, _ => none
 | k + 1, x3, x4, b, c, d, a => if x4 < x3 then (if 0 ≤ x4 then (if x4 < (a.length : Int) then (if ((Zah a x4).length : Int) = b then (Za4.l1 k x3 x4 0 b c d a) else (some false)) else (none)) else (none)) else (some true)
def Za4.l1 : Nat → Int → Int → Int → Int → Int → Int → List (List Int) → Option (Bool)
 | 0, _, _, _, _, _, _, _ => none
 | k + 1, x3, x4, x5, b, c, d, a => if x5 < b then (if 0 ≤ x4 then (if x4 < (a.length : Int) then (if 0 ≤ x5 then (if x5 < ((Zah a x4).length : Int) then ((Za0.f (rd (Zah a x4) x5) (-1) (wrap64 (x3 - 1))).bind fun e => (if e = true then (Za4.l1 k x3 x4 (wrap64 (x5 + 1)) b c d a) else (some false))) else (none)) else (none)) else (none)) else (none)) else (Za4.l0 k x3 (wrap64 (x4 + 1)) b c d a)
end
def Za4.f (k : Nat) (b : Int) (c : Int) (d : Int) (e : List (List Int)) : Option (Bool) := (Zb1.f b c d e).bind fun a => ((Za0.f b 0 8).bind fun g => (if g = true then ((Za0.f a 1 16).bind fun h => (if h = true then ((Za0.f c 0 (wrap64 (a - 1))).bind fun i => (if i = true then ((Zc4.f a).bind fun j => ((Za0.f d 0 j).bind fun l => (Za4.j0 k a (!l) b c d e))) else (Za4.j0 k a true b c d e))) else (Za4.j0 k a true b c d e))) else (Za4.j0 k a true b c d e)))
theorem Za4.calls (k : Nat) (d : Int) (j : Int) (l : Int) (q : Option Addr) (o : Nat) (c : List (List Int)) (r : Bool) (w : World) (a2 : Kd.C (Kd.slice 2 (Kd.int .i64)) w q c.length c) (a3 : c.length ≤ o) (h : Za4.f k d j l c = some r) :
  Calls Try.prog 39 #[.agg #[.int .i64 d, .int .i64 j, .int .i64 l, .slice q c.length o]] w fun e w' => e = .returned (.bool r) ∧ Below w.heap.size w w' := by
 have cv := Try.underlying26
 have z := mA a2
 have aU := mA a3
 clear a2 a3
 have HB := mA (Below.refl w.heap.size w)
 unfold Za4.f at h
 have H := h
 clear h
 replace H := bE H
 obtain ⟨i, bJ, H⟩ := H
 have A2 := mA bJ
 clear bJ
 have bv := mA H
 clear H
 go_enter Try.func39, Try.ntmps39
 go_upto_region 2 with (first | ((with_reducible refine Zap (N := 1) rfl ?_); refine boxS (N := 1) (cs := #[.int .i64 d, .int .i64 j, .int .i64 l, .slice q c.length o]) (t := 26) ?_; intro b hg w4 hbox hb; have a := mA (hbox); have a4 := geW (w := w) hg; have a5 := geW (w := w) hg; replace HB := mA (Zaf (bW) hb); clear hb hbox hg; obtain ⟨B, D, E, G⟩ := Zau a.out; obtain ⟨I, J, K, L⟩ := frz4 a.out) | (go_at_call 46; (with_reducible refine (Zb1.calls d j l _ _ c i _ ?side1 ?side2 A2.out).mono ?_); (case side1 => exact cP (zL z.out HB.out)); (case side2 => exact aU.out); rintro e w6 ⟨rfl, hb⟩; replace a := mA (blkB a.out hb); replace HB := mA (Zaf (bW) hb); (try clear hb); (try clear hb2); (try clear hk); (try clear hi)))
 repeat (go_quiet (first | ((with_reducible refine Zap (N := 1) rfl ?_); refine boxS (N := 1) (cs := #[.int .i64 d, .int .i64 j, .int .i64 l, .slice q c.length o]) (t := 26) ?_; intro b hg w4 hbox hb; have a := mA (hbox); have a4 := geW (w := w) hg; have a5 := geW (w := w) hg; replace HB := mA (Zaf (bW) hb); clear hb hbox hg; obtain ⟨B, D, E, G⟩ := Zau a.out; obtain ⟨I, J, K, L⟩ := frz4 a.out) | (go_at_call 46; (with_reducible refine (Zb1.calls d j l _ _ c i _ ?side1 ?side2 A2.out).mono ?_); (case side1 => exact cP (zL z.out HB.out)); (case side2 => exact aU.out); rintro e w6 ⟨rfl, hb⟩; replace a := mA (blkB a.out hb); replace HB := mA (Zaf (bW) hb); (try clear hb); (try clear hb2); (try clear hk); (try clear hi))); go_upto_region 2 with (first | ((with_reducible refine Zap (N := 1) rfl ?_); refine boxS (N := 1) (cs := #[.int .i64 d, .int .i64 j, .int .i64 l, .slice q c.length o]) (t := 26) ?_; intro b hg w4 hbox hb; have a := mA (hbox); have a4 := geW (w := w) hg; have a5 := geW (w := w) hg; replace HB := mA (Zaf (bW) hb); clear hb hbox hg; obtain ⟨B, D, E, G⟩ := Zau a.out; obtain ⟨I, J, K, L⟩ := frz4 a.out) | (go_at_call 46; (with_reducible refine (Zb1.calls d j l _ _ c i _ ?side1 ?side2 A2.out).mono ?_); (case side1 => exact cP (zL z.out HB.out)); (case side2 => exact aU.out); rintro e w6 ⟨rfl, hb⟩; replace a := mA (blkB a.out hb); replace HB := mA (Zaf (bW) hb); (try clear hb); (try clear hb2); (try clear hk); (try clear hi))))
 (try simp only [Act.put, List.setIfInBounds_toArray, List.set_cons_zero, List.set_cons_succ])
 go_cut [32] (fun v32 wc => ∃ (kq : Nat) (aJ : Bool), v32 = .bool aJ ∧ Zad (Za4.j0 kq i aJ d j l c = some r) ∧ Zad (kq ≤ k) ∧ Zad (wc.heap[b]? = some (.cells #[.int .i64 d, .int .i64 j, .int .i64 l, (.slice q c.length o)] 26 (0, 0))) ∧ Zad (Below w.heap.size w wc))
 case first =>
  have H := bv.out
  clear bv
  replace H := bE H
  obtain ⟨bN, bK, H⟩ := H
  have A7 := mA bK
  clear bK
  by_cases c8 : bN = true; rotate_left
  ·replace c8 := Bool.eq_false_iff.mpr c8
   subst c8
   rw [iF] at H
   have H' := mA H
   clear H
   have X : w6.cell? ⟨b, 0, none⟩ = some (.int .i64 d) := bc a 0
   have Y : w6.cell? ⟨b, 1, none⟩ = some (.int .i64 j) := bc a 1
   have aa : w6.cell? ⟨b, 2, none⟩ = some (.int .i64 l) := bc a 2
   have ab : w6.cell? ⟨b, 3, none⟩ = some (.slice q c.length o) := bc a 3
   have ac := Zae a.out 0
   have ad := Zae a.out 1
   have ae := Zae a.out 2
   have af := Zae a.out 3
   go_wp2_with (first | (go_at_call 81; (with_reducible refine (Za0.calls d 0 8 false _ A7.out).mono ?_); rintro e w' ⟨rfl, ⟨nd, rfl⟩⟩; (try first | exact dwD | exact dwE)))
   repeat (go_quiet (first | (go_at_call 81; (with_reducible refine (Za0.calls d 0 8 false _ A7.out).mono ?_); rintro e w' ⟨rfl, ⟨nd, rfl⟩⟩; (try first | exact dwD | exact dwE))); try go_wp2_with (first | (go_at_call 81; (with_reducible refine (Za0.calls d 0 8 false _ A7.out).mono ?_); rintro e w' ⟨rfl, ⟨nd, rfl⟩⟩; (try first | exact dwD | exact dwE))))
   go_meet
   case rel => exact ⟨_, (true), (eW), H', ⟨by first | omega | exact Nat.le_refl _⟩, ⟨bP a.out⟩, ⟨bW⟩⟩
  subst c8
  rw [if_pos rfl] at H
  replace H := bE H
  obtain ⟨bO, bL, H⟩ := H
  have A9 := mA bL
  clear bL
  by_cases c10 : bO = true; rotate_left
  ·replace c10 := Bool.eq_false_iff.mpr c10
   subst c10
   rw [iF] at H
   have H' := mA H
   clear H
   have ag : w6.cell? ⟨b, 0, none⟩ = some (.int .i64 d) := bc a 0
   have ah : w6.cell? ⟨b, 1, none⟩ = some (.int .i64 j) := bc a 1
   have ai : w6.cell? ⟨b, 2, none⟩ = some (.int .i64 l) := bc a 2
   have aj : w6.cell? ⟨b, 3, none⟩ = some (.slice q c.length o) := bc a 3
   have ak := Zae a.out 0
   have al := Zae a.out 1
   have am := Zae a.out 2
   have an := Zae a.out 3
   go_wp2_with (first | (go_at_call 81; (with_reducible refine (Za0.calls d 0 8 true _ A7.out).mono ?_); rintro e w' ⟨rfl, ⟨nd, rfl⟩⟩; (try first | exact dwD | exact dwE)) | (go_at_call 81; (with_reducible refine (Za0.calls i 1 16 false _ A9.out).mono ?_); rintro e w' ⟨rfl, ⟨nd, rfl⟩⟩; (try first | exact dwD | exact dwE)))
   repeat (go_quiet (first | (go_at_call 81; (with_reducible refine (Za0.calls d 0 8 true _ A7.out).mono ?_); rintro e w' ⟨rfl, ⟨nd, rfl⟩⟩; (try first | exact dwD | exact dwE)) | (go_at_call 81; (with_reducible refine (Za0.calls i 1 16 false _ A9.out).mono ?_); rintro e w' ⟨rfl, ⟨nd, rfl⟩⟩; (try first | exact dwD | exact dwE))); try go_wp2_with (first | (go_at_call 81; (with_reducible refine (Za0.calls d 0 8 true _ A7.out).mono ?_); rintro e w' ⟨rfl, ⟨nd, rfl⟩⟩; (try first | exact dwD | exact dwE)) | (go_at_call 81; (with_reducible refine (Za0.calls i 1 16 false _ A9.out).mono ?_); rintro e w' ⟨rfl, ⟨nd, rfl⟩⟩; (try first | exact dwD | exact dwE))))
   go_meet
   case rel => exact ⟨_, (true), (eW), H', ⟨by first | omega | exact Nat.le_refl _⟩, ⟨bP a.out⟩, ⟨bW⟩⟩
  subst c10
  rw [if_pos rfl] at H
  replace H := bE H
  obtain ⟨bQ, bw, H⟩ := H
  have aQ := mA bw
  clear bw
  by_cases aK : bQ = true; rotate_left
  ·replace aK := Bool.eq_false_iff.mpr aK
   subst aK
   rw [iF] at H
   have H' := mA H
   clear H
   have ao : w6.cell? ⟨b, 0, none⟩ = some (.int .i64 d) := bc a 0
   have ap : w6.cell? ⟨b, 1, none⟩ = some (.int .i64 j) := bc a 1
   have aq : w6.cell? ⟨b, 2, none⟩ = some (.int .i64 l) := bc a 2
   have ar : w6.cell? ⟨b, 3, none⟩ = some (.slice q c.length o) := bc a 3
   have au := Zae a.out 0
   have av := Zae a.out 1
   have aw := Zae a.out 2
   have ax := Zae a.out 3
   go_wp2_with (first | (go_at_call 81; (with_reducible refine (Za0.calls d 0 8 true _ A7.out).mono ?_); rintro e w' ⟨rfl, ⟨nd, rfl⟩⟩; (try first | exact dwD | exact dwE)) | (go_at_call 81; (with_reducible refine (Za0.calls i 1 16 true _ A9.out).mono ?_); rintro e w' ⟨rfl, ⟨nd, rfl⟩⟩; (try first | exact dwD | exact dwE)) | (go_at_call 81; (with_reducible refine (Za0.calls j 0 (wrap64 (i - 1)) false _ aQ.out).mono ?_); rintro e w' ⟨rfl, ⟨nd, rfl⟩⟩; (try first | exact dwD | exact dwE)))
   repeat (go_quiet (first | (go_at_call 81; (with_reducible refine (Za0.calls d 0 8 true _ A7.out).mono ?_); rintro e w' ⟨rfl, ⟨nd, rfl⟩⟩; (try first | exact dwD | exact dwE)) | (go_at_call 81; (with_reducible refine (Za0.calls i 1 16 true _ A9.out).mono ?_); rintro e w' ⟨rfl, ⟨nd, rfl⟩⟩; (try first | exact dwD | exact dwE)) | (go_at_call 81; (with_reducible refine (Za0.calls j 0 (wrap64 (i - 1)) false _ aQ.out).mono ?_); rintro e w' ⟨rfl, ⟨nd, rfl⟩⟩; (try first | exact dwD | exact dwE))); try go_wp2_with (first | (go_at_call 81; (with_reducible refine (Za0.calls d 0 8 true _ A7.out).mono ?_); rintro e w' ⟨rfl, ⟨nd, rfl⟩⟩; (try first | exact dwD | exact dwE)) | (go_at_call 81; (with_reducible refine (Za0.calls i 1 16 true _ A9.out).mono ?_); rintro e w' ⟨rfl, ⟨nd, rfl⟩⟩; (try first | exact dwD | exact dwE)) | (go_at_call 81; (with_reducible refine (Za0.calls j 0 (wrap64 (i - 1)) false _ aQ.out).mono ?_); rintro e w' ⟨rfl, ⟨nd, rfl⟩⟩; (try first | exact dwD | exact dwE))))
   go_meet
   case rel => exact ⟨_, (true), (eW), H', ⟨by first | omega | exact Nat.le_refl _⟩, ⟨bP a.out⟩, ⟨bW⟩⟩
  subst aK
  rw [if_pos rfl] at H
  replace H := bE H
  obtain ⟨ay, bx, H⟩ := H
  have bz := mA bx
  clear bx
  replace H := bE H
  obtain ⟨aV, bA, H⟩ := H
  have bB := mA bA
  clear bA
  have H' := mA H
  clear H
  have az : w6.cell? ⟨b, 0, none⟩ = some (.int .i64 d) := bc a 0
  have aA : w6.cell? ⟨b, 1, none⟩ = some (.int .i64 j) := bc a 1
  have aB : w6.cell? ⟨b, 2, none⟩ = some (.int .i64 l) := bc a 2
  have aC : w6.cell? ⟨b, 3, none⟩ = some (.slice q c.length o) := bc a 3
  have aD := Zae a.out 0
  have aE := Zae a.out 1
  have aF := Zae a.out 2
  have aG := Zae a.out 3
  go_wp2_with (first | (go_at_call 81; (with_reducible refine (Za0.calls d 0 8 true _ A7.out).mono ?_); rintro e w' ⟨rfl, ⟨nd, rfl⟩⟩; (try first | exact dwD | exact dwE)) | (go_at_call 81; (with_reducible refine (Za0.calls i 1 16 true _ A9.out).mono ?_); rintro e w' ⟨rfl, ⟨nd, rfl⟩⟩; (try first | exact dwD | exact dwE)) | (go_at_call 81; (with_reducible refine (Za0.calls j 0 (wrap64 (i - 1)) true _ aQ.out).mono ?_); rintro e w' ⟨rfl, ⟨nd, rfl⟩⟩; (try first | exact dwD | exact dwE)) | (go_at_call 45; (with_reducible refine (Zc4.calls i ay _ bz.out).mono ?_); rintro e w' ⟨rfl, ⟨nd, rfl⟩⟩; (try first | exact dwD | exact dwE)) | (go_at_call 81; (with_reducible refine (Za0.calls l 0 ay aV _ bB.out).mono ?_); rintro e w' ⟨rfl, ⟨nd, rfl⟩⟩; (try first | exact dwD | exact dwE)))
  repeat (go_quiet (first | (go_at_call 81; (with_reducible refine (Za0.calls d 0 8 true _ A7.out).mono ?_); rintro e w' ⟨rfl, ⟨nd, rfl⟩⟩; (try first | exact dwD | exact dwE)) | (go_at_call 81; (with_reducible refine (Za0.calls i 1 16 true _ A9.out).mono ?_); rintro e w' ⟨rfl, ⟨nd, rfl⟩⟩; (try first | exact dwD | exact dwE)) | (go_at_call 81; (with_reducible refine (Za0.calls j 0 (wrap64 (i - 1)) true _ aQ.out).mono ?_); rintro e w' ⟨rfl, ⟨nd, rfl⟩⟩; (try first | exact dwD | exact dwE)) | (go_at_call 45; (with_reducible refine (Zc4.calls i ay _ bz.out).mono ?_); rintro e w' ⟨rfl, ⟨nd, rfl⟩⟩; (try first | exact dwD | exact dwE)) | (go_at_call 81; (with_reducible refine (Za0.calls l 0 ay aV _ bB.out).mono ?_); rintro e w' ⟨rfl, ⟨nd, rfl⟩⟩; (try first | exact dwD | exact dwE))); try go_wp2_with (first | (go_at_call 81; (with_reducible refine (Za0.calls d 0 8 true _ A7.out).mono ?_); rintro e w' ⟨rfl, ⟨nd, rfl⟩⟩; (try first | exact dwD | exact dwE)) | (go_at_call 81; (with_reducible refine (Za0.calls i 1 16 true _ A9.out).mono ?_); rintro e w' ⟨rfl, ⟨nd, rfl⟩⟩; (try first | exact dwD | exact dwE)) | (go_at_call 81; (with_reducible refine (Za0.calls j 0 (wrap64 (i - 1)) true _ aQ.out).mono ?_); rintro e w' ⟨rfl, ⟨nd, rfl⟩⟩; (try first | exact dwD | exact dwE)) | (go_at_call 45; (with_reducible refine (Zc4.calls i ay _ bz.out).mono ?_); rintro e w' ⟨rfl, ⟨nd, rfl⟩⟩; (try first | exact dwD | exact dwE)) | (go_at_call 81; (with_reducible refine (Za0.calls l 0 ay aV _ bB.out).mono ?_); rintro e w' ⟨rfl, ⟨nd, rfl⟩⟩; (try first | exact dwD | exact dwE))))
  go_meet
  case rel => exact ⟨_, (!aV), (eW), H', ⟨by first | omega | exact Nat.le_refl _⟩, ⟨bP a.out⟩, ⟨bW⟩⟩
 case rest =>
  clear bv
  try clear c1
  try clear p2
  try clear c3
  try clear p6
  try clear c8
  try clear c10
  try clear aK
  try clear az
  try clear aA
  try clear aB
  try clear aC
  try clear ao
  try clear ap
  try clear aq
  try clear ar
  try clear ag
  try clear ah
  try clear ai
  try clear aj
  try clear X
  try clear Y
  try clear aa
  try clear ab
  try clear B
  try clear D
  try clear E
  try clear G
  try clear aD
  try clear aE
  try clear aF
  try clear aG
  try clear au
  try clear av
  try clear aw
  try clear ax
  try clear ak
  try clear al
  try clear am
  try clear an
  try clear ac
  try clear ad
  try clear ae
  try clear af
  try clear I
  try clear J
  try clear K
  try clear L
  obtain ⟨kq, aJ, rfl, HA, a6, a, HB⟩ := hcut
  cases kq with
  | zero => exact absurd HA.out (by simp [Za4.j0])
  | succ bM =>
   have H := HA.out
   clear HA
   simp only [Za4.j0] at H
   by_cases aR : aJ = true
   ·subst aR
    rw [if_pos rfl] at H
    obtain rfl := oI H
    go_wp2
    repeat (go_quiet (fail); try go_wp2)
    go_ret
    exact ⟨eW, bW⟩
   replace aR := Bool.eq_false_iff.mpr aR
   subst aR
   rw [iF] at H
   have H' := mA H
   clear H
   go_wp2
   repeat (go_quiet (fail); try go_wp2)
   go_loopg [4] bM (fun kq v4 w' => ∃ (g : Int), v4 = .int .i64 g ∧ Zad (Za4.l0 kq i g d j l c = some r) ∧ Zad (kq ≤ bM) ∧ Zad (w'.heap[b]? = some (.cells #[.int .i64 d, .int .i64 j, .int .i64 l, (.slice q c.length o)] 26 (0, 0))) ∧ Zad (Below w.heap.size w w'))
   case atStart => exact ⟨(0), (eW), H', ⟨Nat.le_refl _⟩, ⟨bP a.out⟩, ⟨bW⟩⟩
   case round =>
    clear H'
    try clear c1
    try clear p2
    try clear c3
    try clear p6
    try clear c8
    try clear c10
    try clear aK
    try clear aR
    try clear az
    try clear aA
    try clear aB
    try clear aC
    try clear ao
    try clear ap
    try clear aq
    try clear ar
    try clear ag
    try clear ah
    try clear ai
    try clear aj
    try clear X
    try clear Y
    try clear aa
    try clear ab
    try clear B
    try clear D
    try clear E
    try clear G
    try clear aD
    try clear aE
    try clear aF
    try clear aG
    try clear au
    try clear av
    try clear aw
    try clear ax
    try clear ak
    try clear al
    try clear am
    try clear an
    try clear ac
    try clear ad
    try clear ae
    try clear af
    try clear I
    try clear J
    try clear K
    try clear L
    try clear p2
    try clear p6
    obtain ⟨g, rfl, HA, a7, a, HB⟩ := hrel
    cases gk with
    | zero => exact absurd HA.out (by simp [Za4.l0])
    | succ k2 =>
     have H := HA.out
     clear HA
     simp only [Za4.l0] at H
     by_cases aL : g < i; rotate_left
     ·rw [if_neg aL] at H
      have a8 := dF aL
      clear aL
      obtain rfl := oI H
      go_wp2
      repeat (go_quiet (fail); try go_wp2)
      go_ret
      exact ⟨eW, bW⟩
     rw [if_pos aL] at H
     have a8 := dT aL
     clear aL
     by_cases aX : 0 ≤ g; rotate_left
     ·rw [if_neg aX] at H
      exact absurd H (by simp)
     rw [if_pos aX] at H
     have bF := dT aX
     clear aX
     by_cases aY : g < (c.length : Int); rotate_left
     ·rw [if_neg aY] at H
      exact absurd H (by simp)
     rw [if_pos aY] at H
     have bG := dT aY
     clear aY
     by_cases aI : ((Zah c g).length : Int) = d; rotate_left
     ·rw [if_neg aI] at H
      have a9 : (((Zah c g).length : Int) == d) = false := beq_eq_false_iff_ne.mpr aI
      have ba : (((Zah c g).length : Int) != d) = true := bne_iff_ne.mpr aI
      obtain rfl := oI H
      have bS : wr.cell? ⟨b, 0, none⟩ = some (.int .i64 d) := bc a 0
      have bT : wr.cell? ⟨b, 1, none⟩ = some (.int .i64 j) := bc a 1
      have bU : wr.cell? ⟨b, 2, none⟩ = some (.int .i64 l) := bc a 2
      have bV : wr.cell? ⟨b, 3, none⟩ = some (.slice q c.length o) := bc a 3
      have bX := Zae a.out 0
      have bY := Zae a.out 1
      have bZ := Zae a.out 2
      have b0 := Zae a.out 3
      have M : 0 ≤ (g : Int) := ofD
      have O : g < (c.length : Int) := ofD
      obtain ⟨A, aM, aN, aZ, n, u, v⟩ := Zca z.out g M O
      cases aZ
      replace n := (HB.out.cell (wB w n)).trans n
      have bj := mA v
      have bk := mA u
      clear v u
      replace M := eq_true M
      replace O := eq_true O
      go_wp2
      repeat (go_quiet (fail); try go_wp2)
      go_ret
      exact ⟨eW, bW⟩
     rw [if_pos aI] at H
     have a9 : (((Zah c g).length : Int) == d) = true := beq_iff_eq.mpr aI
     have ba : (((Zah c g).length : Int) != d) = false := bne_eq_false_iff_eq.mpr aI
     clear aI
     have H' := mA H
     clear H
     have bl : wr.cell? ⟨b, 0, none⟩ = some (.int .i64 d) := bc a 0
     have bm : wr.cell? ⟨b, 1, none⟩ = some (.int .i64 j) := bc a 1
     have bn : wr.cell? ⟨b, 2, none⟩ = some (.int .i64 l) := bc a 2
     have bo : wr.cell? ⟨b, 3, none⟩ = some (.slice q c.length o) := bc a 3
     have bp := Zae a.out 0
     have bq := Zae a.out 1
     have br := Zae a.out 2
     have bs := Zae a.out 3
     have M : 0 ≤ (g : Int) := ofD
     have O : g < (c.length : Int) := ofD
     obtain ⟨A, aM, aN, aZ, n, u, v⟩ := Zca z.out g M O
     cases aZ
     replace n := (HB.out.cell (wB w n)).trans n
     have bj := mA v
     have bk := mA u
     clear v u
     replace M := eq_true M
     replace O := eq_true O
     go_wp2
     repeat (go_quiet (fail); try go_wp2)
     go_loopg [5] k2 (fun kq v5 w' => ∃ (m : Int), v5 = .int .i64 m ∧ Zad (Za4.l1 kq i g m d j l c = some r) ∧ Zad (kq ≤ k2) ∧ Zad (w'.heap[b]? = some (.cells #[.int .i64 d, .int .i64 j, .int .i64 l, (.slice (some A) c.length o)] 26 (0, 0))) ∧ Zad (Below w.heap.size w w'))
     case atStart => exact ⟨(0), (eW), H', ⟨Nat.le_refl _⟩, ⟨bP a.out⟩, ⟨bW⟩⟩
     case round =>
      clear H'
      try clear c1
      try clear p1
      try clear q1
      try clear hx1
      try clear c2
      try clear p2
      try clear c3
      try clear p6
      try clear c8
      try clear c10
      try clear c11
      try clear p11
      try clear q11
      try clear hx11
      try clear aK
      try clear aR
      try clear aL
      try clear a8
      try clear aX
      try clear bF
      try clear aY
      try clear bG
      try clear aI
      try clear a9
      try clear ba
      try clear az
      try clear aA
      try clear aB
      try clear aC
      try clear ao
      try clear ap
      try clear aq
      try clear ar
      try clear ag
      try clear ah
      try clear ai
      try clear aj
      try clear X
      try clear Y
      try clear aa
      try clear ab
      try clear bl
      try clear bm
      try clear bn
      try clear bo
      try clear B
      try clear D
      try clear E
      try clear G
      try clear aD
      try clear aE
      try clear aF
      try clear aG
      try clear au
      try clear av
      try clear aw
      try clear ax
      try clear ak
      try clear al
      try clear am
      try clear an
      try clear ac
      try clear ad
      try clear ae
      try clear af
      try clear bp
      try clear bq
      try clear br
      try clear bs
      try clear I
      try clear J
      try clear K
      try clear L
      try clear n
      try clear M
      try clear p2
      try clear p6
      try clear O
      obtain ⟨m, rfl, HA, bb, a, HB⟩ := hrel
      cases gk with
      | zero => exact absurd HA.out (by simp [Za4.l1])
      | succ k3 =>
       have H := HA.out
       clear HA
       simp only [Za4.l1] at H
       by_cases aS : m < d; rotate_left
       ·rw [if_neg aS] at H
        have bH := dF aS
        clear aS
        have H' := mA H
        clear H
        have b1 : wr.cell? ⟨b, 0, none⟩ = some (.int .i64 d) := bc a 0
        have b2 : wr.cell? ⟨b, 1, none⟩ = some (.int .i64 j) := bc a 1
        have b3 : wr.cell? ⟨b, 2, none⟩ = some (.int .i64 l) := bc a 2
        have b4 : wr.cell? ⟨b, 3, none⟩ = some (.slice (some A) c.length o) := bc a 3
        have b5 := Zae a.out 0
        have b6 := Zae a.out 1
        have b7 := Zae a.out 2
        have b8 := Zae a.out 3
        go_wp2
        repeat (go_quiet (fail); try go_wp2)
        go_roundg k3
        case measure => have := a6.out; have := a7.out; have := bb.out; omega
        case rel => exact ⟨(wrap64 (g + 1)), (eW), H', ⟨by have := a6.out; have := a7.out; have := bb.out; omega⟩, ⟨bP a.out⟩, ⟨bW⟩⟩
       rw [if_pos aS] at H
       have bH := dT aS
       clear aS
       by_cases bd : 0 ≤ g; rotate_left
       ·rw [if_neg bd] at H
        exact absurd H (by simp)
       rw [if_pos bd] at H
       have cq := dT bd
       clear bd
       by_cases bf : g < (c.length : Int); rotate_left
       ·rw [if_neg bf] at H
        exact absurd H (by simp)
       rw [if_pos bf] at H
       have cr := dT bf
       clear bf
       by_cases bg : 0 ≤ m; rotate_left
       ·rw [if_neg bg] at H
        exact absurd H (by simp)
       rw [if_pos bg] at H
       have ct := dT bg
       clear bg
       by_cases bh : m < ((Zah c g).length : Int); rotate_left
       ·rw [if_neg bh] at H
        exact absurd H (by simp)
       rw [if_pos bh] at H
       have cu := dT bh
       clear bh
       replace H := bE H
       obtain ⟨bR, bC, H⟩ := H
       have aT := mA bC
       clear bC
       by_cases bi : bR = true; rotate_left
       ·replace bi := Bool.eq_false_iff.mpr bi
        subst bi
        rw [iF] at H
        obtain rfl := oI H
        have b9 : wr.cell? ⟨b, 0, none⟩ = some (.int .i64 d) := bc a 0
        have ca : wr.cell? ⟨b, 1, none⟩ = some (.int .i64 j) := bc a 1
        have cb : wr.cell? ⟨b, 2, none⟩ = some (.int .i64 l) := bc a 2
        have cc : wr.cell? ⟨b, 3, none⟩ = some (.slice (some A) c.length o) := bc a 3
        have cd := Zae a.out 0
        have ce := Zae a.out 1
        have cf := Zae a.out 2
        have cg := Zae a.out 3
        have P : 0 ≤ (g : Int) := ofD
        have T : g < (c.length : Int) := ofD
        obtain ⟨aW, aO, aP, a0, p, x, y⟩ := Zca z.out g P T
        obtain rfl : A = aW := (by injection a0)
        (try (have bD : aO = aM ∧ aP = aN := (by have e_ := p.symm.trans n; simpa using e_)))
        replace p := (HB.out.cell (wB w p)).trans p
        have aH := mA y
        have bu := mA x
        clear y x
        replace P := eq_true P
        replace T := eq_true T
        have U : 0 ≤ (m : Int) := ofD
        have W : m < ((Zah c g).length : Int) := ofD
        obtain ⟨bI, a1, s⟩ := zO aH.out m U W
        cases a1
        replace s := (HB.out.cell (wB w s)).trans s
        replace U := eq_true U
        replace W := eq_true W
        go_wp2_with (first | (go_at_call 81; (with_reducible refine (Za0.calls (rd (Zah c g) m) (-1) (wrap64 (i - 1)) false _ aT.out).mono ?_); rintro e w' ⟨rfl, ⟨nd, rfl⟩⟩; (try first | exact dwD | exact dwE)))
        repeat (go_quiet (first | (go_at_call 81; (with_reducible refine (Za0.calls (rd (Zah c g) m) (-1) (wrap64 (i - 1)) false _ aT.out).mono ?_); rintro e w' ⟨rfl, ⟨nd, rfl⟩⟩; (try first | exact dwD | exact dwE))); try go_wp2_with (first | (go_at_call 81; (with_reducible refine (Za0.calls (rd (Zah c g) m) (-1) (wrap64 (i - 1)) false _ aT.out).mono ?_); rintro e w' ⟨rfl, ⟨nd, rfl⟩⟩; (try first | exact dwD | exact dwE))))
        go_ret
        exact ⟨eW, bW⟩
       subst bi
       rw [if_pos rfl] at H
       have H' := mA H
       clear H
       have ch : wr.cell? ⟨b, 0, none⟩ = some (.int .i64 d) := bc a 0
       have ci : wr.cell? ⟨b, 1, none⟩ = some (.int .i64 j) := bc a 1
       have cj : wr.cell? ⟨b, 2, none⟩ = some (.int .i64 l) := bc a 2
       have ck : wr.cell? ⟨b, 3, none⟩ = some (.slice (some A) c.length o) := bc a 3
       have cm := Zae a.out 0
       have cn := Zae a.out 1
       have co := Zae a.out 2
       have cp := Zae a.out 3
       have P : 0 ≤ (g : Int) := ofD
       have T : g < (c.length : Int) := ofD
       obtain ⟨aW, aO, aP, a0, p, x, y⟩ := Zca z.out g P T
       obtain rfl : A = aW := (by injection a0)
       (try (have bD : aO = aM ∧ aP = aN := (by have e_ := p.symm.trans n; simpa using e_)))
       replace p := (HB.out.cell (wB w p)).trans p
       have aH := mA y
       have bu := mA x
       clear y x
       replace P := eq_true P
       replace T := eq_true T
       have U : 0 ≤ (m : Int) := ofD
       have W : m < ((Zah c g).length : Int) := ofD
       obtain ⟨bI, a1, s⟩ := zO aH.out m U W
       cases a1
       replace s := (HB.out.cell (wB w s)).trans s
       replace U := eq_true U
       replace W := eq_true W
       go_wp2_with (first | (go_at_call 81; (with_reducible refine (Za0.calls (rd (Zah c g) m) (-1) (wrap64 (i - 1)) true _ aT.out).mono ?_); rintro e w' ⟨rfl, ⟨nd, rfl⟩⟩; (try first | exact dwD | exact dwE)))
       repeat (go_quiet (first | (go_at_call 81; (with_reducible refine (Za0.calls (rd (Zah c g) m) (-1) (wrap64 (i - 1)) true _ aT.out).mono ?_); rintro e w' ⟨rfl, ⟨nd, rfl⟩⟩; (try first | exact dwD | exact dwE))); try go_wp2_with (first | (go_at_call 81; (with_reducible refine (Za0.calls (rd (Zah c g) m) (-1) (wrap64 (i - 1)) true _ aT.out).mono ?_); rintro e w' ⟨rfl, ⟨nd, rfl⟩⟩; (try first | exact dwD | exact dwE))))
       go_roundg k3
       case measure => have := a6.out; have := a7.out; have := bb.out; omega
       case rel => exact ⟨(wrap64 (m + 1)), (eW), H', ⟨by have := a6.out; have := a7.out; have := bb.out; omega⟩, ⟨bP a.out⟩, ⟨bW⟩⟩
end Go.Proofs.Ytgindgodfcfgkaa.P
end M0
section M1
namespace Go.Proofs.Ytgindgodfcfgkaa.P
open Go.RowKit Go.Proofs.Ytgindgodfcfgkaa.Sh Go.Proofs.YtgindgodfcfgkaaW.PrintWords Go.Proofs.YtgindgodfcfgkaaW.PrintLast Go.Proofs.YtgindgodfcfgkaaW.PrintMore
open Kd
attribute [local go_sem] Zcc Zcd Zck Zcl Zb2 Zb3 Zce Zcb   -- for this text's walks alone
set_option linter.unusedVariables false
set_option linter.unusedSimpArgs false
mutual
def Zay.l0 : Nat → List Bool → Bool → Int → List (List Int) → List Bool → Option (List Bool)
 | 0, _, _, _, _, _ => none
 | k + 1, x3, x4, a, b, c => if x4 = true then (Zay.l1 k x3 false 0 a b c) else (some x3)
def Zay.l1 : Nat → List Bool → Bool → Int → Int → List (List Int) → List Bool → Option (List Bool)
 | 0, _, _, _, _, _, _ => none
 | k + 1, x3, x4, x5, b, a, c => if x5 < (a.length : Int) then (Zay.l2 k x3 x4 x5 0 b a c) else (Zay.l0 k x3 x4 b a c)
def Zay.l2 : Nat → List Bool → Bool → Int → Int → Int → List (List Int) → List Bool → Option (List Bool)
 | 0, _, _, _, _, _, _, _ => none
 | k + 1, x3, x4, x5, x6, b, a, c => if 0 ≤ x5 then (if x5 < (a.length : Int) then (if x6 < ((Zah a x5).length : Int) then (if x5 < (x3.length : Int) then (Zay.j3 k x3 x4 x5 x6 (!(rdOf false x3 x5)) b a c) else (none)) else (Zay.j3 k x3 x4 x5 x6 false b a c)) else (none)) else (none)
def Zay.j3 : Nat → List Bool → Bool → Int → Int → Bool → Int → List (List Int) → List Bool → Option (List Bool)
 | 0, _, _, _, _, _, _, _, _ => none
 | k + 1, x3, x4, x5, x6, d, b, a, c => if d = true then (if 0 ≤ x5 then (if x5 < (a.length : Int) then (if 0 ≤ x6 then (if x6 < ((Zah a x5).length : Int) then (if (rd (Zah a x5) x6) ≥ 0 then (if 0 ≤ (rd (Zah a x5) x6) then (if (rd (Zah a x5) x6) < (x3.length : Int) then (if rdOf false x3 (rd (Zah a x5) x6) = true then (if x5 < (x3.length : Int) then (Zay.l2 k (x3.set (x5 : Int).toNat true) true x5 (wrap64 (x6 + 1)) b a c) else (none)) else (Zay.l2 k x3 x4 x5 (wrap64 (x6 + 1)) b a c)) else (none)) else (none)) else (Zay.l2 k x3 x4 x5 (wrap64 (x6 + 1)) b a c)) else (none)) else (none)) else (none)) else (none)) else (Zay.l1 k x3 x4 (wrap64 (x5 + 1)) b a c)
end
def Zay.f (k : Nat) (c : Int) (d : List (List Int)) (a : List Bool) : Option (List Bool) := (some (([] : List Bool) : List Bool)).bind fun b => (if b.length + a.length < 140737488355328 then (Zay.l0 k (b ++ a) true c d a) else (none))
theorem Zay.calls (k : Nat) (n : Int) (z : Option Addr) (v : Nat) (d : List (List Int)) (x : Option Addr) (y : Nat) (l : List Bool) (r : List Bool) (w : World) (a6 : Kd.C (Kd.slice 2 (Kd.int .i64)) w z d.length d) (a7 : d.length ≤ v) (a8 : Kd.C Kd.bool w x l.length l) (a9 : l.length ≤ y) (h : Zay.f k n d l = some r) :
  Calls Try.prog 112 #[.agg #[.int .i64 n, .slice z d.length v, .slice x l.length y]] w fun e w' => ∃ b0 : Value, e = .returned (b0) ∧ Kd.R Kd.bool 4 w' w.heap.size (fun _ => True) b0 r ∧ Below w.heap.size w w' := by
 have cR := Try.underlying95
 have ad := mA a6
 have cE := mA a7
 clear a6 a7
 have bQ := mA a8
 have cF := mA a9
 clear a8 a9
 have HB := mA (Below.refl w.heap.size w)
 unfold Zay.f at h
 have H := h
 clear h
 obtain ⟨aZ, aA⟩ : ∃ y_ : List Bool, y_ = (([] : List Bool)) := ⟨_, rfl⟩
 replace H := bsm aA H
 have ba := mA aA
 clear aA
 by_cases c2 : aZ.length + l.length < 140737488355328; rotate_left
 ·rw [if_neg c2] at H
  exact absurd H (by simp)
 rw [if_pos c2] at H
 have b1 := mA c2
 clear c2
 obtain ⟨b2, aC⟩ : ∃ y_ : List Bool, y_ = (aZ ++ l) := ⟨_, rfl⟩
 rw [← aC] at H
 have bR := mA aC
 clear aC
 have H' := mA H
 clear H
 go_enter Try.func112, Try.ntmps112
 go_wp2_with (first | ((with_reducible refine Zap (N := 1) rfl ?_); refine boxS (N := 1) (cs := #[.int .i64 n, .slice z d.length v, .slice x l.length y]) (t := 95) ?_; intro i hg w3 hbox hb; have a := mA (hbox); have cG := geW (w := w) hg; have cH := geW (w := w) hg; replace HB := mA (Zaf (bW) hb); clear hb hbox hg) | ((with_reducible refine Zap (N := 8) rfl ?_); refine yS Kd.bool _ 4 ?hg (N := 8) ?hd (xs := ([] : List Bool)) (inner := []) (ok := fun _ => True) (okp := fun _ => True) ?hr ?hp (fun _ hk => hk) trivial (Below.refl _ _) (Nat.le_refl _) (by simp) ?_; (case hd => rfl); (case hg => rfl); (case hr => first | (go_simp; done) | (go_simp; rfl)); (case hp => exact (Reps.none _ _)); intro b3 w4 aT hb hg_ hnew_; clear hg_ hnew_; (first | rw [← ba.out] at aT | (simp only [Int.reduceToNat] at aT; rw [← ba.out] at aT)); have aD := mA (zV aT (Zan (bW))); replace a := mA (blkB a.out hb); replace HB := mA (Zaf (bW) hb); clear hb aT; obtain ⟨ae, af, ag⟩ := cells3 a.out; obtain ⟨ah, ai, aj⟩ := frz3 a.out) | ((with_reducible refine Zbp (b := .append) (xs := #[.tmp 8, .tmp 10]) rfl ?_); at_builtin; refine xO Kd.bool (w0 := w) w.heap.size rfl (.tmp 8) (.tmp 10) 61 4 (.bool false) 1 rfl Try.underlying61 info4 rfl (by decide) (by omega) b3 aZ l _ _ _ (fun _ => True) (fun _ => False) rfl rfl ?aO ?aR (fun _ _ h => h) (fun _ h => h.elim) ?aF ?aB ?aS ?aL ?_; (case aR => exact cP (zL bQ.out HB.out)); (case aB => exact (bW)); (case aF => exact (fun _ _ => trivial)); (case aO => exact (rP aD.out)); (case aS => exact (Zan (bW))); (case aL => have := b1.out; omega); intro aE w7 ho hb hg hat; rw [← bR.out] at ho; replace a := mA (Zaq (g := i) (o := .cells #[.int .i64 n, .slice z d.length v, .slice x l.length y] 95 (0, 0)) (bP a.out) hg (zQ aD.out a.out (by decide))); replace HB := mA (hb); have bS := mA (ho); clear aD ho hb hg hat))
 go_loopg [4] k (fun kq v4 w' => ∃ (aG : List Bool) (aH : Bool), v4 = .bool aH ∧ Zad (Zay.l0 kq aG aH n d l = some r) ∧ Zad (kq ≤ k) ∧ Zad (Kd.R Kd.bool 4 w' w.heap.size (fun _ => True) aE aG) ∧ Zad (w'.heap[i]? = some (.cells #[.int .i64 n, (.slice z d.length v), (.slice x l.length y)] 95 (0, 0))) ∧ Zad (Below w.heap.size w w'))
 case atStart => exact ⟨(b2), (true), (eW), H', ⟨Nat.le_refl _⟩, ⟨rP bS.out⟩, ⟨bP a.out⟩, ⟨bW⟩⟩
 case round =>
  clear H'
  try clear c1
  try clear c2
  try clear p2
  try clear ae
  try clear af
  try clear ag
  try clear ah
  try clear ai
  try clear aj
  obtain ⟨aG, aH, rfl, HA, O, m, a, HB⟩ := hrel
  cases gk with
  | zero => exact absurd HA.out (by simp [Zay.l0])
  | succ k1 =>
   have H := HA.out
   clear HA
   simp only [Zay.l0] at H
   by_cases c8 : aH = true; rotate_left
   ·replace c8 := Bool.eq_false_iff.mpr c8
    subst c8
    rw [iF] at H
    obtain rfl := oI H
    go_wp2
    go_ret
    exact ⟨_, eW, (rP m.out), bW⟩
   subst c8
   rw [if_pos rfl] at H
   have H' := mA H
   clear H
   go_wp2
   go_loopg [4, 5] k1 (fun kq v4 v5 w' => ∃ (al : List Bool) (am : Bool) (c : Int), v4 = .bool am ∧ v5 = .int .i64 c ∧ Zad (Zay.l1 kq al am c n d l = some r) ∧ Zad (kq ≤ k1) ∧ Zad (Kd.R Kd.bool 4 w' w.heap.size (fun _ => True) aE al) ∧ Zad (w'.heap[i]? = some (.cells #[.int .i64 n, (.slice z d.length v), (.slice x l.length y)] 95 (0, 0))) ∧ Zad (Below w.heap.size w w'))
   case atStart => exact ⟨(aG), (false), (0), (eW), (eW), H', ⟨Nat.le_refl _⟩, ⟨rP m.out⟩, ⟨bP a.out⟩, ⟨bW⟩⟩
   case round =>
    clear H'
    try clear c1
    try clear c2
    try clear p2
    try clear c8
    try clear ae
    try clear af
    try clear ag
    try clear ah
    try clear ai
    try clear aj
    try clear p2
    obtain ⟨al, am, c, rfl, rfl, HA, P, m, a, HB⟩ := hrel
    cases gk with
    | zero => exact absurd HA.out (by simp [Zay.l1])
    | succ k2 =>
     have H := HA.out
     clear HA
     simp only [Zay.l1] at H
     by_cases c9 : c < (d.length : Int); rotate_left
     ·rw [if_neg c9] at H
      have a0 := dF c9
      clear c9
      have H' := mA H
      clear H
      have cc : wr.cell? ⟨i, 0, none⟩ = some (.int .i64 n) := bc a 0
      have cd : wr.cell? ⟨i, 1, none⟩ = some (.slice z d.length v) := bc a 1
      have ce : wr.cell? ⟨i, 2, none⟩ = some (.slice x l.length y) := bc a 2
      have cf := Zae a.out 0
      have cg := Zae a.out 1
      have ch := Zae a.out 2
      go_wp2
      go_roundg k2
      case measure => have := O.out; have := P.out; omega
      case rel => exact ⟨(al), (am), (eW), H', ⟨by have := O.out; have := P.out; omega⟩, ⟨rP m.out⟩, ⟨bP a.out⟩, ⟨bW⟩⟩
     rw [if_pos c9] at H
     have a0 := dT c9
     clear c9
     have H' := mA H
     clear H
     have aq : wr.cell? ⟨i, 0, none⟩ = some (.int .i64 n) := bc a 0
     have ar : wr.cell? ⟨i, 1, none⟩ = some (.slice z d.length v) := bc a 1
     have au : wr.cell? ⟨i, 2, none⟩ = some (.slice x l.length y) := bc a 2
     have av := Zae a.out 0
     have aw := Zae a.out 1
     have ax := Zae a.out 2
     go_wp2
     go_loopg [4, 6] k2 (fun kq v4 v6 w' => ∃ (u : List Bool) (aa : Bool) (j : Int), v4 = .bool aa ∧ v6 = .int .i64 j ∧ Zad (Zay.l2 kq u aa c j n d l = some r) ∧ Zad (kq ≤ k2) ∧ Zad (Kd.R Kd.bool 4 w' w.heap.size (fun _ => True) aE u) ∧ Zad (w'.heap[i]? = some (.cells #[.int .i64 n, (.slice z d.length v), (.slice x l.length y)] 95 (0, 0))) ∧ Zad (Below w.heap.size w w'))
     case atStart => exact ⟨(al), (am), (0), (eW), (eW), H', ⟨Nat.le_refl _⟩, ⟨rP m.out⟩, ⟨bP a.out⟩, ⟨bW⟩⟩
     case round =>
      clear H'
      try clear c1
      try clear c2
      try clear p2
      try clear c8
      try clear c9
      try clear a0
      try clear aq
      try clear ar
      try clear au
      try clear ae
      try clear af
      try clear ag
      try clear av
      try clear aw
      try clear ax
      try clear ah
      try clear ai
      try clear aj
      try clear p2
      obtain ⟨u, aa, j, rfl, rfl, HA, Y, m, a, HB⟩ := hrel
      cases gk with
      | zero => exact absurd HA.out (by simp [Zay.l2])
      | succ k3 =>
       have H := HA.out
       clear HA
       simp only [Zay.l2] at H
       have a1 := mA H
       clear H
       go_upto_region 9 with (fail)
       go_cut [34] (fun v34 wc => ∃ (kq : Nat) (ak : Bool), v34 = .bool ak ∧ Zad (Zay.j3 kq u aa c j ak n d l = some r) ∧ Zad (kq ≤ k3) ∧ Zad (Kd.R Kd.bool 4 wc w.heap.size (fun _ => True) aE u) ∧ Zad (wc.heap[i]? = some (.cells #[.int .i64 n, (.slice z d.length v), (.slice x l.length y)] 95 (0, 0))) ∧ Zad (Below w.heap.size w wc))
       case first =>
        have H := a1.out
        clear a1
        by_cases aU : 0 ≤ c; rotate_left
        ·rw [if_neg aU] at H
         exact absurd H (by simp)
        rw [if_pos aU] at H
        have aI := dT aU
        clear aU
        (first | rw [aI] | (simp only [i64_w, i32_w]; rw [aI]) | skip)
        by_cases aV : c < (d.length : Int); rotate_left
        ·rw [if_neg aV] at H
         exact absurd H (by simp)
        rw [if_pos aV] at H
        have bT := dT aV
        clear aV
        by_cases an : j < ((Zah d c).length : Int); rotate_left
        ·rw [if_neg an] at H
         have bb := dF an
         clear an
         have H' := mA H
         clear H
         have bp : wr.cell? ⟨i, 0, none⟩ = some (.int .i64 n) := bc a 0
         have bq : wr.cell? ⟨i, 1, none⟩ = some (.slice z d.length v) := bc a 1
         have br : wr.cell? ⟨i, 2, none⟩ = some (.slice x l.length y) := bc a 2
         have bs := Zae a.out 0
         have bu := Zae a.out 1
         have bv := Zae a.out 2
         have T : 0 ≤ (c : Int) := ofD
         have U : c < (d.length : Int) := ofD
         obtain ⟨bU, bG, bH, a2, A, K, L⟩ := Zca ad.out c T U
         cases a2
         replace A := (HB.out.cell (wB w A)).trans A
         have bw := mA L
         have bx := mA K
         clear L K
         replace T := eq_true T
         replace U := eq_true U
         go_wp2
         go_meet
         case rel => exact ⟨_, (false), (eW), H', ⟨by have := O.out; have := P.out; have := Y.out; first | omega | exact Nat.le_refl _⟩, ⟨rP m.out⟩, ⟨bP a.out⟩, ⟨bW⟩⟩
        rw [if_pos an] at H
        have bb := dT an
        clear an
        by_cases aW : c < (u.length : Int); rotate_left
        ·rw [if_neg aW] at H
         exact absurd H (by simp)
        rw [if_pos aW] at H
        have bV := dT aW
        clear aW
        have H' := mA H
        clear H
        have bz : wr.cell? ⟨i, 0, none⟩ = some (.int .i64 n) := bc a 0
        have bA : wr.cell? ⟨i, 1, none⟩ = some (.slice z d.length v) := bc a 1
        have bB : wr.cell? ⟨i, 2, none⟩ = some (.slice x l.length y) := bc a 2
        have bC := Zae a.out 0
        have bD := Zae a.out 1
        have bE := Zae a.out 2
        have T : 0 ≤ (c : Int) := ofD
        have U : c < (d.length : Int) := ofD
        obtain ⟨bU, bG, bH, a2, A, K, L⟩ := Zca ad.out c T U
        cases a2
        replace A := (HB.out.cell (wB w A)).trans A
        have bw := mA L
        have bx := mA K
        clear L K
        replace T := eq_true T
        replace U := eq_true U
        obtain ⟨cS, cT, b4⟩ := zP m.out
        subst b4
        have aJ : 0 ≤ (c : Int) := ofD
        have aK : c < (u.length : Int) := ofD
        obtain ⟨cI, b5, bF⟩ := yC (zK m.out).2.2 c aJ aK
        cases b5
        replace aJ := eq_true aJ
        replace aK := eq_true aK
        go_wp2
        go_meet
        case rel => exact ⟨_, (!(rdOf false u c)), (eW), H', ⟨by have := O.out; have := P.out; have := Y.out; first | omega | exact Nat.le_refl _⟩, ⟨rP m.out⟩, ⟨bP a.out⟩, ⟨bW⟩⟩
       case rest =>
        clear a1
        try clear c1
        try clear p1
        try clear q1
        try clear hx1
        try clear c2
        try clear p2
        try clear c8
        try clear c9
        try clear a0
        try clear c11
        try clear aU
        try clear aI
        try clear p12
        try clear q12
        try clear hx12
        try clear aV
        try clear bT
        try clear an
        try clear bb
        try clear aW
        try clear bV
        try clear aq
        try clear ar
        try clear au
        try clear bz
        try clear bA
        try clear bB
        try clear bp
        try clear bq
        try clear br
        try clear ae
        try clear af
        try clear ag
        try clear av
        try clear aw
        try clear ax
        try clear bC
        try clear bD
        try clear bE
        try clear bs
        try clear bu
        try clear bv
        try clear ah
        try clear ai
        try clear aj
        try clear A
        try clear bF
        try clear T
        try clear aJ
        try clear p2
        try clear U
        try clear aK
        obtain ⟨kq, ak, rfl, HA, W, m, a, HB⟩ := hcut
        cases kq with
        | zero => exact absurd HA.out (by simp [Zay.j3])
        | succ aM =>
         have H := HA.out
         clear HA
         simp only [Zay.j3] at H
         by_cases bd : ak = true; rotate_left
         ·replace bd := Bool.eq_false_iff.mpr bd
          subst bd
          rw [iF] at H
          have H' := mA H
          clear H
          go_wp2
          go_roundg aM
          case measure => have := O.out; have := P.out; have := Y.out; have := W.out; omega
          case rel => exact ⟨(u), (aa), (wrap64 (c + 1)), (eW), (eW), H', ⟨by have := O.out; have := P.out; have := Y.out; have := W.out; omega⟩, ⟨rP m.out⟩, ⟨bP a.out⟩, ⟨bW⟩⟩
         subst bd
         rw [if_pos rfl] at H
         by_cases bf : 0 ≤ c; rotate_left
         ·rw [if_neg bf] at H
          exact absurd H (by simp)
         rw [if_pos bf] at H
         have cJ := dT bf
         clear bf
         by_cases bg : c < (d.length : Int); rotate_left
         ·rw [if_neg bg] at H
          exact absurd H (by simp)
         rw [if_pos bg] at H
         have cK := dT bg
         clear bg
         by_cases bh : 0 ≤ j; rotate_left
         ·rw [if_neg bh] at H
          exact absurd H (by simp)
         rw [if_pos bh] at H
         have cL := dT bh
         clear bh
         by_cases bi : j < ((Zah d c).length : Int); rotate_left
         ·rw [if_neg bi] at H
          exact absurd H (by simp)
         rw [if_pos bi] at H
         have cM := dT bi
         clear bi
         by_cases ay : (rd (Zah d c) j) ≥ 0; rotate_left
         ·rw [if_neg ay] at H
          have bX : decide (0 ≤ (rd (Zah d c) j)) = false := dF ay
          clear ay
          have H' := mA H
          clear H
          have ci : wc.cell? ⟨i, 0, none⟩ = some (.int .i64 n) := bc a 0
          have cj : wc.cell? ⟨i, 1, none⟩ = some (.slice z d.length v) := bc a 1
          have ck : wc.cell? ⟨i, 2, none⟩ = some (.slice x l.length y) := bc a 2
          have cm := Zae a.out 0
          have cn := Zae a.out 1
          have co := Zae a.out 2
          have E : 0 ≤ (c : Int) := ofD
          have G : c < (d.length : Int) := ofD
          obtain ⟨aN, aX, aY, ao, q, B, D⟩ := Zca ad.out c E G
          cases ao
          replace q := (HB.out.cell (wB w q)).trans q
          have M := mA D
          have az := mA B
          clear D B
          replace E := eq_true E
          replace G := eq_true G
          have I : 0 ≤ (j : Int) := ofD
          have J : j < ((Zah d c).length : Int) := ofD
          obtain ⟨bj, ap, s⟩ := zO M.out j I J
          cases ap
          replace s := (HB.out.cell (wB w s)).trans s
          replace I := eq_true I
          replace J := eq_true J
          go_wp2
          go_roundg aM
          case measure => have := O.out; have := P.out; have := Y.out; have := W.out; omega
          case rel => exact ⟨(u), (aa), (wrap64 (j + 1)), (eW), (eW), H', ⟨by have := O.out; have := P.out; have := Y.out; have := W.out; omega⟩, ⟨rP m.out⟩, ⟨bP a.out⟩, ⟨bW⟩⟩
         rw [if_pos ay] at H
         have bX : decide (0 ≤ (rd (Zah d c) j)) = true := dT ay
         clear ay
         by_cases bk : 0 ≤ (rd (Zah d c) j); rotate_left
         ·rw [if_neg bk] at H
          exact absurd H (by simp)
         rw [if_pos bk] at H
         have cN := dT bk
         clear bk
         by_cases bl : (rd (Zah d c) j) < (u.length : Int); rotate_left
         ·rw [if_neg bl] at H
          exact absurd H (by simp)
         rw [if_pos bl] at H
         have cO := dT bl
         clear bl
         obtain ⟨b6, aP⟩ : ∃ b_ : Bool, b_ = (rdOf false u (rd (Zah d c) j)) := ⟨_, rfl⟩
         rw [← aP] at H
         have bm := mA aP
         clear aP
         by_cases bn : b6 = true; rotate_left
         ·replace bn := Bool.eq_false_iff.mpr bn
          subst bn
          rw [iF] at H
          have H' := mA H
          clear H
          have cp : wc.cell? ⟨i, 0, none⟩ = some (.int .i64 n) := bc a 0
          have cq : wc.cell? ⟨i, 1, none⟩ = some (.slice z d.length v) := bc a 1
          have cr : wc.cell? ⟨i, 2, none⟩ = some (.slice x l.length y) := bc a 2
          have ct := Zae a.out 0
          have cu := Zae a.out 1
          have cv := Zae a.out 2
          have E : 0 ≤ (c : Int) := ofD
          have G : c < (d.length : Int) := ofD
          obtain ⟨aN, aX, aY, ao, q, B, D⟩ := Zca ad.out c E G
          cases ao
          replace q := (HB.out.cell (wB w q)).trans q
          have M := mA D
          have az := mA B
          clear D B
          replace E := eq_true E
          replace G := eq_true G
          have I : 0 ≤ (j : Int) := ofD
          have J : j < ((Zah d c).length : Int) := ofD
          obtain ⟨bj, ap, s⟩ := zO M.out j I J
          cases ap
          replace s := (HB.out.cell (wB w s)).trans s
          replace I := eq_true I
          replace J := eq_true J
          obtain ⟨cU, cV, b7⟩ := zP m.out
          subst b7
          have ab : 0 ≤ ((rd (Zah d c) j) : Int) := ofD
          have ac : (rd (Zah d c) j) < (u.length : Int) := ofD
          obtain ⟨bY, a3, X⟩ := yC (zK m.out).2.2 (rd (Zah d c) j) ab ac
          (try rw [← bm.out] at X)
          cases a3
          replace ab := eq_true ab
          replace ac := eq_true ac
          go_wp2
          go_roundg aM
          case measure => have := O.out; have := P.out; have := Y.out; have := W.out; omega
          case rel => exact ⟨(u), (aa), (wrap64 (j + 1)), (eW), (eW), H', ⟨by have := O.out; have := P.out; have := Y.out; have := W.out; omega⟩, ⟨rP m.out⟩, ⟨bP a.out⟩, ⟨bW⟩⟩
         subst bn
         rw [if_pos rfl] at H
         by_cases bo : c < (u.length : Int); rotate_left
         ·rw [if_neg bo] at H
          exact absurd H (by simp)
         rw [if_pos bo] at H
         have cQ := dT bo
         clear bo
         obtain ⟨bI, aQ⟩ : ∃ y_ : List Bool, y_ = (u.set (c : Int).toNat true) := ⟨_, rfl⟩
         rw [← aQ] at H
         have bZ := mA aQ
         clear aQ
         have H' := mA H
         clear H
         have cw : wc.cell? ⟨i, 0, none⟩ = some (.int .i64 n) := bc a 0
         have cx : wc.cell? ⟨i, 1, none⟩ = some (.slice z d.length v) := bc a 1
         have cy : wc.cell? ⟨i, 2, none⟩ = some (.slice x l.length y) := bc a 2
         have cz := Zae a.out 0
         have cA := Zae a.out 1
         have cB := Zae a.out 2
         have E : 0 ≤ (c : Int) := ofD
         have G : c < (d.length : Int) := ofD
         obtain ⟨aN, aX, aY, ao, q, B, D⟩ := Zca ad.out c E G
         cases ao
         replace q := (HB.out.cell (wB w q)).trans q
         have M := mA D
         have az := mA B
         clear D B
         replace E := eq_true E
         replace G := eq_true G
         have I : 0 ≤ (j : Int) := ofD
         have J : j < ((Zah d c).length : Int) := ofD
         obtain ⟨bj, ap, s⟩ := zO M.out j I J
         cases ap
         replace s := (HB.out.cell (wB w s)).trans s
         replace I := eq_true I
         replace J := eq_true J
         obtain ⟨cW, b8, b9⟩ := zP m.out
         subst b9
         have ab : 0 ≤ ((rd (Zah d c) j) : Int) := ofD
         have ac : (rd (Zah d c) j) < (u.length : Int) := ofD
         obtain ⟨bY, a3, X⟩ := yC (zK m.out).2.2 (rd (Zah d c) j) ab ac
         (try rw [← bm.out] at X)
         cases a3
         replace ab := eq_true ab
         replace ac := eq_true ac
         have bJ : 0 ≤ (c : Int) := ofD
         have bK : (c : Int) < ((u.length : Int) : Int) := ofD
         obtain ⟨a4, cX, bL, bM, ca, cY, bN⟩ := yM m.out (by omega)
         (first | cases bL | (injection bL with ea_ en_ ec_; (first | subst ea_ | (injection ea_ with ea_; subst ea_)); subst ec_; clear en_))
         have cb := mA bM
         have cZ := mA bN
         clear bM ca bN
         (first | simp only [Zcg] at X | skip)
         obtain ⟨cC, cD⟩ := yF false m.out (c : Int) bJ bK
         replace bJ := eq_true bJ
         replace bK := eq_true bK
         have a5 := yG m.out (c : Int) true
         go_wp2_with (first | ((with_reducible refine Zbl (t := 4) (p := 55) rfl ?_); refine Zc2 (t := 4) (p := 55) (w1 := (wc.setCell ⟨a4, (c : Int).toNat, none⟩ (.bool true))) ?_; intro bO hw; have hg : wc.grownBy bO (some a4) := (by rw [hw]; exact a5.2); have hp_ : Kd.R Kd.bool 4 bO w.heap.size (fun _ => True) (.slice (some ⟨a4, 0, none⟩) u.length b8) bI := (by rw [hw, bZ.out]; exact a5.1); clear a5; replace a := mA (Zaq (g := i) (o := .cells #[.int .i64 n, .slice (some aN) d.length v, .slice x l.length y] 95 (0, 0)) (bP a.out) hg (zQ m.out a.out (by decide))); replace m := mA (hp_); replace HB := mA ((by rw [hw]; exact Za7 (HB.out) cb.out : Below w.heap.size w bO)); clear hg hw hp_))
         go_roundg aM
         case measure => have := O.out; have := P.out; have := Y.out; have := W.out; omega
         case rel => exact ⟨(bI), (true), (wrap64 (j + 1)), (eW), (eW), H', ⟨by have := O.out; have := P.out; have := Y.out; have := W.out; omega⟩, ⟨rP m.out⟩, ⟨bP a.out⟩, ⟨bW⟩⟩
def Za8.f (l0 : List Int) (a1 : Int) : Option (Int) := if a1 < 0 then (some (-1)) else (if 0 ≤ a1 then (if a1 < (l0.length : Int) then (some (rd l0 a1)) else (none)) else (none))
theorem Za8.calls (A0 : Option Addr) (c0 : Nat) (l0 : List Int) (a1 : Int) (r : Int) (w : World) (c : Kd.C (Kd.int .i64) w A0 l0.length l0) (d : l0.length ≤ c0) (h : Za8.f l0 a1 = some r) :
  Calls Try.prog 103 #[.slice A0 l0.length c0, .int .i64 a1] w fun e w' => e = .returned (.int .i64 r) ∧ Zas w w' := by
 have k := mA c
 have o := mA d
 clear c d
 unfold Za8.f at h
 have H := h
 clear h
 by_cases c3 : a1 < 0
 ·rw [if_pos c3] at H
  have g := dT c3
  clear c3
  obtain rfl := oI H
  go_enter Try.func103, Try.ntmps103
  go_wp2
  go_ret
  exact ⟨eW, by repeat (first | exact Zas.refl _ | apply Zas.step)⟩
 rw [if_neg c3] at H
 have g := dF c3
 clear c3
 by_cases c4 : 0 ≤ a1; rotate_left
 ·rw [if_neg c4] at H
  exact absurd H (by simp)
 rw [if_pos c4] at H
 have m := dT c4
 clear c4
 by_cases c5 : a1 < (l0.length : Int); rotate_left
 ·rw [if_neg c5] at H
  exact absurd H (by simp)
 rw [if_pos c5] at H
 have n := dT c5
 clear c5
 obtain rfl := oI H
 have a : 0 ≤ (a1 : Int) := ofD
 have b : a1 < (l0.length : Int) := ofD
 obtain ⟨l, i, j⟩ := zO k.out a1 a b
 cases i
 replace a := eq_true a
 replace b := eq_true b
 go_enter Try.func103, Try.ntmps103
 go_wp2
 go_ret
 exact ⟨eW, by repeat (first | exact Zas.refl _ | apply Zas.step)⟩
end Go.Proofs.Ytgindgodfcfgkaa.P
end M1
