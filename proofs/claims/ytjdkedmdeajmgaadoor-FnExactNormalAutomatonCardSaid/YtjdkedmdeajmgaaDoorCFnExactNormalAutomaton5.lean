import Derived.Test.YtjdkedmdeajmgaaDoorCFnExactNormalAutomaton2
set_option maxHeartbeats 8000000
set_option maxRecDepth 100000
section M0
namespace Go.Proofs.YtjdkedmdeajmgaaDoor.P
open Go.RowKit Go.Proofs.YtjdkedmdeajmgaaDoor.Sh Go.Proofs.YtjdkedmdeajmgaaDoorW.PrintWords Go.Proofs.YtjdkedmdeajmgaaDoorW.PrintLast Go.Proofs.YtjdkedmdeajmgaaDoorW.PrintMore
open Kd
attribute [local go_sem] Zcf Zch Zcv Zcu Zb6 Zb7 Zcg Zce   -- for this text's walks alone
set_option linter.unusedVariables false
set_option linter.unusedSimpArgs false
def Zdd.f (a0 : Int) : Option (Int × Int × Int × (List (List Int))) := if 0 ≤ a0 then (if (a0 : Int).toNat ≤ 35184372088832 then (some (a0, 0, 1, (([(List.replicate (a0 : Int).toNat 0)] : List (List Int))))) else (none)) else (none)
theorem Zdd.calls (a0 : Int) (r1 : Int) (r2 : Int) (r3 : Int) (r4 : List (List Int)) (w : World) (h : Zdd.f a0 = some (r1, r2, r3, r4)) :
  Calls Tryd.prog 57 #[.int .i64 a0] w fun e w' => ∃ q : Value, e = .returned (.agg #[.int .i64 r1, .int .i64 r2, .int .i64 r3, q]) ∧ Kd.S (Kd.slice 2 (Kd.int .i64)) 22 w' w.heap.size (fun _ => True) q r4 ∧ Below w.heap.size w w' := by
 have K := Tryd.underlying39
 have HB := mA (Below.refl w.heap.size w)
 unfold Zdd.f at h
 have H := h
 clear h
 by_cases c2 : 0 ≤ a0; rotate_left
 ·rw [if_neg c2] at H
  exact absurd H (by simp)
 rw [if_pos c2] at H
 have L := eq_true c2
 have M := dT c2
 clear c2
 by_cases c3 : (a0 : Int).toNat ≤ 35184372088832; rotate_left
 ·rw [if_neg c3] at H
  exact absurd H (by simp)
 rw [if_pos c3] at H
 have O := eq_true c3
 have P := dT c3
 clear c3
 obtain ⟨k, c⟩ := nm ((List.replicate (a0 : Int).toNat 0) : List Int)
 rw [← c.out] at H
 obtain ⟨m, d⟩ := nm ((([k] : List (List Int))) : List (List Int))
 rw [← d.out] at H
 simp only [Option.some.injEq, Prod.mk.injEq] at H
 obtain ⟨rfl, rfl, rfl, rfl⟩ := H
 go_enter Tryd.func57, Tryd.ntmps57
 go_wp2_with (first | ((with_reducible refine Zat (N := 2) rfl ?_); refine boxS (N := 2) (cs := #[.int .i64 0, .int .i64 0, .int .i64 0, .slice none 0 0]) (t := 39) ?_; intro b hg w4 hbox hb; have a := mA (hbox); have I := geW (w := w) hg; have J := geW (w := w) hg; replace HB := mA (Zaf (bW) hb); clear hb hbox hg) | ((with_reducible refine Zat (N := 5) rfl ?_); refine xB (Kd.int .i64) _ 2 rfl (N := 5) rfl 22 _ _ rfl a0 rfl rfl Tryd.underlying22 (.int .i64 0) 8 Zci rfl (by decide) (by omega) 0 (ok := fun _ => True) (okp := fun _ => True) rfl (fun _ hk => hk) trivial (ofD) (Nat.le_trans (Nat.mul_le_mul_right _ (ofD : a0.toNat ≤ 35184372088832)) (by omega)) (Below.refl _ _) (Nat.le_refl _) ?_; intro T w5 i hb hg_ hnew_; clear hg_ hnew_; (first | rw [← c.out] at i | (simp only [Int.reduceToNat] at i; rw [← c.out] at i)); have g := mA (zS i (Zaj (bW))); replace a := mA (blkB a.out hb); replace HB := mA (Zaf (bW) hb); clear hb i; obtain ⟨D, E, G⟩ := zP g.out; subst G) | ((with_reducible refine Zat (N := 6) rfl ?_); refine Kd.S_lit1 (Kd.slice 2 (Kd.int .i64)) w.heap.size 22 ?hg (N := 6) ?hd (xs := ([k] : List (List Int))) (inner := [.slice D k.length E]) (ok := (fun _ => True)) (okp := (fun _ => True)) ?hr ?hp (fun _ hk => hk) ((show ∀ k_, w5.heap.size ≤ k_ → (fun _ => True) k_ from fun k_ hk => trivial) _ (Nat.le_refl _)) (Below.refl _ _) ((Zaj (bW))) (by simp) ?_; (case hd => rfl); (case hg => rfl); (case hr => first | (go_simp; done) | (go_simp; rfl)); (case hp => exact ⟨_, rfl, rfl, Kd.M_row (by (with_reducible repeat (first | apply zC | apply zD | apply zA)); exact (zB (ok' := (fun _ => True)) (g.out) (fun k_ hk => trivial)))⟩); intro U w8 j hb hg_ hnew_; have hown_ := own_new hnew_; clear hg_ hnew_; (first | rw [← d.out] at j | (simp only [Int.reduceToNat] at j; rw [← d.out] at j)); have l := mA (j); replace a := mA (blkB a.out hb); replace HB := mA (Zaf (bW) hb); clear g hb j hown_; obtain ⟨n, o, r⟩ := yE l.out; subst r; obtain ⟨s, u, v, x⟩ := Zbl a.out; obtain ⟨y, z, A, B⟩ := frz4 a.out))
 refine bodyPost_ret (results_cell_row rfl _ _ b 39 #[.int .i64 a0, .int .i64 0, .int .i64 1, .slice n m.length o] (0, 0) _ rfl (by (with_reducible repeat (first | refine Zad ?_ _ | refine Zaa ?_ | refine Zab ?_ _)); refine Zau (cs := #[.int .i64 a0, .int .i64 0, .int .i64 1, .slice none 0 0]) ?_ 3 _ rfl; (with_reducible repeat (first | refine Zad ?_ _ | refine Zaa ?_ | refine Zab ?_ _)); refine Zau (cs := #[.int .i64 a0, .int .i64 0, .int .i64 0, .slice none 0 0]) ?_ 2 _ rfl; (with_reducible repeat (first | refine Zad ?_ _ | refine Zaa ?_ | refine Zab ?_ _)); refine Zau (cs := #[.int .i64 a0, .int .i64 0, .int .i64 0, .slice none 0 0]) ?_ 1 _ rfl; (with_reducible repeat (first | refine Zad ?_ _ | refine Zaa ?_ | refine Zab ?_ _)); refine Zau (cs := #[.int .i64 0, .int .i64 0, .int .i64 0, .slice none 0 0]) ?_ 0 _ rfl; exact bP a.out) Tryd.underlying39 rfl (by kernel_rfl)) rfl ?_
 exact ⟨_, eW, by (with_reducible repeat (first | apply zL | apply zM | apply zH)); exact zG (zE (p := ⟨b, 3, none⟩) (zE (p := ⟨b, 2, none⟩) (zE (p := ⟨b, 1, none⟩) (zE (p := ⟨b, 0, none⟩) (zX l.out a.out (by decide)) (fun _ hk => hk.2) (.int .i64 a0)) (fun _ hk => hk.2) (.int .i64 0)) (fun _ hk => hk.2) (.int .i64 1)) (fun _ hk => hk.2) (.slice n m.length o)) (fun _ hk => trivial), bW⟩
def Zba.f (l0 : List Int) (a1 : Int) : Option (Int) := if a1 < 0 then (some (-1)) else (if 0 ≤ a1 then (if a1 < (l0.length : Int) then (some (rd l0 a1)) else (none)) else (none))
theorem Zba.calls (A0 : Option Addr) (c0 : Nat) (l0 : List Int) (a1 : Int) (r : Int) (w : World) (c : Kd.C (Kd.int .i64) w A0 l0.length l0) (d : l0.length ≤ c0) (h : Zba.f l0 a1 = some r) :
  Calls Tryd.prog 114 #[.slice A0 l0.length c0, .int .i64 a1] w fun e w' => e = .returned (.int .i64 r) ∧ Zaw w w' := by
 have k := mA c
 have o := mA d
 clear c d
 unfold Zba.f at h
 have H := h
 clear h
 by_cases c3 : a1 < 0
 ·rw [if_pos c3] at H
  have g := dT c3
  clear c3
  obtain rfl := oI H
  go_enter Tryd.func114, Tryd.ntmps114
  go_wp2
  go_ret
  exact ⟨eW, by repeat (first | exact Zaw.refl _ | apply Zaw.step)⟩
 rw [if_neg c3] at H
 have g := dF c3
 clear c3
 obtain ⟨m, H⟩ := gE H
 obtain ⟨n, H⟩ := gE H
 obtain rfl := oI H
 have a : 0 ≤ (a1 : Int) := ofD
 have b : a1 < (l0.length : Int) := ofD
 obtain ⟨l, i, j⟩ := zO k.out a1 a b
 cases i
 replace a := eq_true a
 replace b := eq_true b
 go_enter Tryd.func114, Tryd.ntmps114
 go_wp2
 go_ret
 exact ⟨eW, by repeat (first | exact Zaw.refl _ | apply Zaw.step)⟩
def Zbx.l0 : Nat → List Int → Int → Int → Int → Int → List (List Int) → List Bool → Option (Bool)
 | 0, _, _, _, _, _, _, _ => none
 | k + 1, x1, x2, x3, x9, b, a, c => if x9 < b then (if 0 ≤ x2 then (if x2 < (a.length : Int) then (if 0 ≤ x9 then (if x9 < ((Zam a x2).length : Int) then ((Zba.f x1 (rd (Zam a x2) x9)).bind fun d => (if 0 ≤ x3 then (if x3 < (a.length : Int) then (if x9 < ((Zam a x3).length : Int) then ((Zba.f x1 (rd (Zam a x3) x9)).bind fun e => (if d = e then (Zbx.l0 k x1 x2 x3 (wrap64 (x9 + 1)) b a c) else (some false))) else (none)) else (none)) else (none))) else (none)) else (none)) else (none)) else (none)) else (some true)
def Zbx.f (k : Nat) (a : Int) (b : List (List Int)) (c : List Bool) (l1 : List Int) (a2 : Int) (a3 : Int) : Option (Bool) := if 0 ≤ a2 then (if a2 < (l1.length : Int) then (if 0 ≤ a3 then (if a3 < (l1.length : Int) then (if (rd l1 a2) = (rd l1 a3) then (Zbx.l0 k l1 a2 a3 0 a b c) else (some false)) else (none)) else (none)) else (none)) else (none)
theorem Zbx.calls (k : Nat) (D : Int) (L : Option Addr) (M : Nat) (a : List (List Int)) (O : Option Addr) (P : Nat) (B : List Bool) (A1 : Option Addr) (c1 : Nat) (l1 : List Int) (a2 : Int) (a3 : Int) (r : Bool) (w : World) (az : Kd.C (Kd.slice 2 (Kd.int .i64)) w L a.length a) (aA : a.length ≤ M) (aB : Kd.C Kd.bool w O B.length B) (aC : B.length ≤ P) (aM : Kd.C (Kd.int .i64) w A1 l1.length l1) (aN : l1.length ≤ c1) (h : Zbx.f k D a B l1 a2 a3 = some r) :
  Calls Tryd.prog 140 #[.agg #[.int .i64 D, .slice L a.length M, .slice O B.length P], .slice A1 l1.length c1, .int .i64 a2, .int .i64 a3] w fun e w' => e = .returned (.bool r) ∧ Below w.heap.size w w' := by
 have br := Tryd.underlying66
 have ab := mA az
 have bh := mA aA
 clear az aA
 have bi := mA aB
 have bj := mA aC
 clear aB aC
 have A := mA aM
 have ag := mA aN
 clear aM aN
 have HB := mA (Below.refl w.heap.size w)
 unfold Zbx.f at h
 have H := h
 clear h
 obtain ⟨aR, H⟩ := gE H
 obtain ⟨aS, H⟩ := gE H
 obtain ⟨aT, H⟩ := gE H
 obtain ⟨aU, H⟩ := gE H
 by_cases c9 : (rd l1 a2) = (rd l1 a3); rotate_left
 ·rw [if_neg c9] at H
  have aE : ((rd l1 a2) == (rd l1 a3)) = false := beq_eq_false_iff_ne.mpr c9
  have aF : ((rd l1 a2) != (rd l1 a3)) = true := bne_iff_ne.mpr c9
  obtain rfl := oI H
  go_enter Tryd.func140, Tryd.ntmps140
  go_wp2_with (first | ((with_reducible refine Zat (N := 4) rfl ?_); refine boxS (N := 4) (cs := #[.int .i64 D, .slice L a.length M, .slice O B.length P]) (t := 66) ?_; intro z hg aO hbox hb; have j := mA (hbox); have an := geW (w := w) hg; have ao := geW (w := w) hg; replace HB := mA (Zaf (bW) hb); clear hb hbox hg; have n : 0 ≤ (a2 : Int) := ofD; have o : a2 < (l1.length : Int) := ofD; obtain ⟨E, T, b⟩ := zO A.out a2 n o; cases T; replace b := (HB.out.cell (wB w b)).trans b; replace n := eq_true n; replace o := eq_true o; have p : 0 ≤ (a3 : Int) := ofD; have q : a3 < (l1.length : Int) := ofD; obtain ⟨G, U, c⟩ := zO A.out a3 p q; obtain rfl : E = G := (by injection U); replace c := (HB.out.cell (wB w c)).trans c; replace p := eq_true p; replace q := eq_true q))
  repeat (go_quiet (first | ((with_reducible refine Zat (N := 4) rfl ?_); refine boxS (N := 4) (cs := #[.int .i64 D, .slice L a.length M, .slice O B.length P]) (t := 66) ?_; intro z hg aO hbox hb; have j := mA (hbox); have an := geW (w := w) hg; have ao := geW (w := w) hg; replace HB := mA (Zaf (bW) hb); clear hb hbox hg; have n : 0 ≤ (a2 : Int) := ofD; have o : a2 < (l1.length : Int) := ofD; obtain ⟨E, T, b⟩ := zO A.out a2 n o; cases T; replace b := (HB.out.cell (wB w b)).trans b; replace n := eq_true n; replace o := eq_true o; have p : 0 ≤ (a3 : Int) := ofD; have q : a3 < (l1.length : Int) := ofD; obtain ⟨G, U, c⟩ := zO A.out a3 p q; obtain rfl : E = G := (by injection U); replace c := (HB.out.cell (wB w c)).trans c; replace p := eq_true p; replace q := eq_true q)); try go_wp2_with (first | ((with_reducible refine Zat (N := 4) rfl ?_); refine boxS (N := 4) (cs := #[.int .i64 D, .slice L a.length M, .slice O B.length P]) (t := 66) ?_; intro z hg aO hbox hb; have j := mA (hbox); have an := geW (w := w) hg; have ao := geW (w := w) hg; replace HB := mA (Zaf (bW) hb); clear hb hbox hg; have n : 0 ≤ (a2 : Int) := ofD; have o : a2 < (l1.length : Int) := ofD; obtain ⟨E, T, b⟩ := zO A.out a2 n o; cases T; replace b := (HB.out.cell (wB w b)).trans b; replace n := eq_true n; replace o := eq_true o; have p : 0 ≤ (a3 : Int) := ofD; have q : a3 < (l1.length : Int) := ofD; obtain ⟨G, U, c⟩ := zO A.out a3 p q; obtain rfl : E = G := (by injection U); replace c := (HB.out.cell (wB w c)).trans c; replace p := eq_true p; replace q := eq_true q)))
  go_ret
  exact ⟨eW, bW⟩
 rw [if_pos c9] at H
 have aE : ((rd l1 a2) == (rd l1 a3)) = true := beq_iff_eq.mpr c9
 have aF : ((rd l1 a2) != (rd l1 a3)) = false := bne_eq_false_iff_eq.mpr c9
 clear c9
 have H' := mA H
 clear H
 go_enter Tryd.func140, Tryd.ntmps140
 go_wp2_with (first | ((with_reducible refine Zat (N := 4) rfl ?_); refine boxS (N := 4) (cs := #[.int .i64 D, .slice L a.length M, .slice O B.length P]) (t := 66) ?_; intro z hg aP hbox hb; have j := mA (hbox); have an := geW (w := w) hg; have ao := geW (w := w) hg; replace HB := mA (Zaf (bW) hb); clear hb hbox hg; have n : 0 ≤ (a2 : Int) := ofD; have o : a2 < (l1.length : Int) := ofD; obtain ⟨E, T, b⟩ := zO A.out a2 n o; cases T; replace b := (HB.out.cell (wB w b)).trans b; replace n := eq_true n; replace o := eq_true o; have p : 0 ≤ (a3 : Int) := ofD; have q : a3 < (l1.length : Int) := ofD; obtain ⟨G, U, c⟩ := zO A.out a3 p q; obtain rfl : E = G := (by injection U); replace c := (HB.out.cell (wB w c)).trans c; replace p := eq_true p; replace q := eq_true q))
 repeat (go_quiet (first | ((with_reducible refine Zat (N := 4) rfl ?_); refine boxS (N := 4) (cs := #[.int .i64 D, .slice L a.length M, .slice O B.length P]) (t := 66) ?_; intro z hg aP hbox hb; have j := mA (hbox); have an := geW (w := w) hg; have ao := geW (w := w) hg; replace HB := mA (Zaf (bW) hb); clear hb hbox hg; have n : 0 ≤ (a2 : Int) := ofD; have o : a2 < (l1.length : Int) := ofD; obtain ⟨E, T, b⟩ := zO A.out a2 n o; cases T; replace b := (HB.out.cell (wB w b)).trans b; replace n := eq_true n; replace o := eq_true o; have p : 0 ≤ (a3 : Int) := ofD; have q : a3 < (l1.length : Int) := ofD; obtain ⟨G, U, c⟩ := zO A.out a3 p q; obtain rfl : E = G := (by injection U); replace c := (HB.out.cell (wB w c)).trans c; replace p := eq_true p; replace q := eq_true q)); try go_wp2_with (first | ((with_reducible refine Zat (N := 4) rfl ?_); refine boxS (N := 4) (cs := #[.int .i64 D, .slice L a.length M, .slice O B.length P]) (t := 66) ?_; intro z hg aP hbox hb; have j := mA (hbox); have an := geW (w := w) hg; have ao := geW (w := w) hg; replace HB := mA (Zaf (bW) hb); clear hb hbox hg; have n : 0 ≤ (a2 : Int) := ofD; have o : a2 < (l1.length : Int) := ofD; obtain ⟨E, T, b⟩ := zO A.out a2 n o; cases T; replace b := (HB.out.cell (wB w b)).trans b; replace n := eq_true n; replace o := eq_true o; have p : 0 ≤ (a3 : Int) := ofD; have q : a3 < (l1.length : Int) := ofD; obtain ⟨G, U, c⟩ := zO A.out a3 p q; obtain rfl : E = G := (by injection U); replace c := (HB.out.cell (wB w c)).trans c; replace p := eq_true p; replace q := eq_true q)))
 go_loopg [9] k (fun kq v9 w' => ∃ (d : Int), v9 = .int .i64 d ∧ Zac (Zbx.l0 kq l1 a2 a3 d D a B = some r) ∧ Zac (kq ≤ k) ∧ Zac (w'.heap[z]? = some (.cells #[.int .i64 D, (.slice L a.length M), (.slice O B.length P)] 66 (0, 0))) ∧ Zac (Below w.heap.size w w'))
 case atStart => exact ⟨(0), (eW), H', ⟨Nat.le_refl _⟩, ⟨bP j.out⟩, ⟨bW⟩⟩
 case round =>
  clear H' aR aS aT aU aE aF b c n p o q
  obtain ⟨d, rfl, HA, aQ, j, HB⟩ := hrel
  cases gk with
  | zero => exact absurd HA.out (by simp [Zbx.l0])
  | succ k1 =>
   have H := HA.out
   clear HA
   simp only [Zbx.l0] at H
   by_cases au : d < D; rotate_left
   ·rw [if_neg au] at H
    have aI := dF au
    clear au
    obtain rfl := oI H
    have aV : wr.cell? ⟨z, 0, none⟩ = some (.int .i64 D) := bc j 0
    have aW : wr.cell? ⟨z, 1, none⟩ = some (.slice L a.length M) := bc j 1
    have aX : wr.cell? ⟨z, 2, none⟩ = some (.slice O B.length P) := bc j 2
    have aY := Zae j.out 0
    have aZ := Zae j.out 1
    have a0 := Zae j.out 2
    go_wp2
    repeat (go_quiet (fail); try go_wp2)
    go_ret
    exact ⟨eW, bW⟩
   rw [if_pos au] at H
   have aI := dT au
   clear au
   obtain ⟨bk, H⟩ := gE H
   obtain ⟨bl, H⟩ := gE H
   obtain ⟨bm, H⟩ := gE H
   obtain ⟨bn, H⟩ := gE H
   obtain ⟨W, av, H⟩ := bA H
   obtain ⟨bo, H⟩ := gE H
   obtain ⟨bp, H⟩ := gE H
   obtain ⟨bq, H⟩ := gE H
   obtain ⟨X, aw, H⟩ := bA H
   by_cases ar : W = X; rotate_left
   ·rw [if_neg ar] at H
    have aJ : (W == X) = false := beq_eq_false_iff_ne.mpr ar
    have aK : (W != X) = true := bne_iff_ne.mpr ar
    obtain rfl := oI H
    have a1 : wr.cell? ⟨z, 0, none⟩ = some (.int .i64 D) := bc j 0
    have a4 : wr.cell? ⟨z, 1, none⟩ = some (.slice L a.length M) := bc j 1
    have a5 : wr.cell? ⟨z, 2, none⟩ = some (.slice O B.length P) := bc j 2
    have a6 := Zae j.out 0
    have a7 := Zae j.out 1
    have a8 := Zae j.out 2
    have aj : 0 ≤ (a2 : Int) := ofD
    have ak : a2 < (a.length : Int) := ofD
    obtain ⟨af, aG, aH, ax, J, ac, ad⟩ := at_L3 ab.out a2 aj ak
    cases ax
    replace J := (HB.out.cell (wB w J)).trans J
    have aq := mA ad
    have aD := mA ac
    clear ad ac
    replace aj := eq_true aj
    replace ak := eq_true ak
    have al : 0 ≤ (d : Int) := ofD
    have am : d < ((Zam a a2).length : Int) := ofD
    obtain ⟨aL, ay, K⟩ := zO aq.out d al am
    cases ay
    replace K := (HB.out.cell (wB w K)).trans K
    replace al := eq_true al
    replace am := eq_true am
    go_wp2_with (first | (go_at_call 114; (with_reducible refine (Zba.calls _ _ l1 (rd (Zam a a2) d) W _ ?side1 ?side2 av.out).mono ?_); (case side1 => exact cP (zQ A.out HB.out)); (case side2 => exact ag.out); rintro e w' ⟨rfl, ⟨nd, rfl⟩⟩; (try first | exact dwD | exact dwE); have s : 0 ≤ (a3 : Int) := ofD; have u : a3 < (a.length : Int) := ofD; obtain ⟨I, ah, ai, Y, g, l, m⟩ := at_L3 ab.out a3 s u; obtain rfl : af = I := (by injection Y); replace g := (HB.out.cell (wB w g)).trans g; have y := mA m; have ae := mA l; clear m l; replace s := eq_true s; replace u := eq_true u; have v : 0 ≤ (d : Int) := ofD; have x : d < ((Zam a a3).length : Int) := ofD; obtain ⟨ap, aa, i⟩ := zO y.out d v x; cases aa; replace i := (HB.out.cell (wB w i)).trans i; replace v := eq_true v; replace x := eq_true x) | (go_at_call 114; (with_reducible refine (Zba.calls _ _ l1 (rd (Zam a a3) d) X _ ?side1 ?side2 aw.out).mono ?_); (case side1 => exact cP (zQ A.out (bW))); (case side2 => exact ag.out); rintro e w' ⟨rfl, ⟨nd, rfl⟩⟩; (try first | exact dwD | exact dwE)))
    repeat (go_quiet (first | (go_at_call 114; (with_reducible refine (Zba.calls _ _ l1 (rd (Zam a a2) d) W _ ?side1 ?side2 av.out).mono ?_); (case side1 => exact cP (zQ A.out HB.out)); (case side2 => exact ag.out); rintro e w' ⟨rfl, ⟨nd, rfl⟩⟩; (try first | exact dwD | exact dwE); have s : 0 ≤ (a3 : Int) := ofD; have u : a3 < (a.length : Int) := ofD; obtain ⟨I, ah, ai, Y, g, l, m⟩ := at_L3 ab.out a3 s u; obtain rfl : af = I := (by injection Y); replace g := (HB.out.cell (wB w g)).trans g; have y := mA m; have ae := mA l; clear m l; replace s := eq_true s; replace u := eq_true u; have v : 0 ≤ (d : Int) := ofD; have x : d < ((Zam a a3).length : Int) := ofD; obtain ⟨ap, aa, i⟩ := zO y.out d v x; cases aa; replace i := (HB.out.cell (wB w i)).trans i; replace v := eq_true v; replace x := eq_true x) | (go_at_call 114; (with_reducible refine (Zba.calls _ _ l1 (rd (Zam a a3) d) X _ ?side1 ?side2 aw.out).mono ?_); (case side1 => exact cP (zQ A.out (bW))); (case side2 => exact ag.out); rintro e w' ⟨rfl, ⟨nd, rfl⟩⟩; (try first | exact dwD | exact dwE))); try go_wp2_with (first | (go_at_call 114; (with_reducible refine (Zba.calls _ _ l1 (rd (Zam a a2) d) W _ ?side1 ?side2 av.out).mono ?_); (case side1 => exact cP (zQ A.out HB.out)); (case side2 => exact ag.out); rintro e w' ⟨rfl, ⟨nd, rfl⟩⟩; (try first | exact dwD | exact dwE); have s : 0 ≤ (a3 : Int) := ofD; have u : a3 < (a.length : Int) := ofD; obtain ⟨I, ah, ai, Y, g, l, m⟩ := at_L3 ab.out a3 s u; obtain rfl : af = I := (by injection Y); replace g := (HB.out.cell (wB w g)).trans g; have y := mA m; have ae := mA l; clear m l; replace s := eq_true s; replace u := eq_true u; have v : 0 ≤ (d : Int) := ofD; have x : d < ((Zam a a3).length : Int) := ofD; obtain ⟨ap, aa, i⟩ := zO y.out d v x; cases aa; replace i := (HB.out.cell (wB w i)).trans i; replace v := eq_true v; replace x := eq_true x) | (go_at_call 114; (with_reducible refine (Zba.calls _ _ l1 (rd (Zam a a3) d) X _ ?side1 ?side2 aw.out).mono ?_); (case side1 => exact cP (zQ A.out (bW))); (case side2 => exact ag.out); rintro e w' ⟨rfl, ⟨nd, rfl⟩⟩; (try first | exact dwD | exact dwE))))
    go_ret
    exact ⟨eW, bW⟩
   rw [if_pos ar] at H
   have aJ : (W == X) = true := beq_iff_eq.mpr ar
   have aK : (W != X) = false := bne_eq_false_iff_eq.mpr ar
   clear ar
   have H' := mA H
   clear H
   have a9 : wr.cell? ⟨z, 0, none⟩ = some (.int .i64 D) := bc j 0
   have ba : wr.cell? ⟨z, 1, none⟩ = some (.slice L a.length M) := bc j 1
   have bb : wr.cell? ⟨z, 2, none⟩ = some (.slice O B.length P) := bc j 2
   have bd := Zae j.out 0
   have bf := Zae j.out 1
   have bg := Zae j.out 2
   have aj : 0 ≤ (a2 : Int) := ofD
   have ak : a2 < (a.length : Int) := ofD
   obtain ⟨af, aG, aH, ax, J, ac, ad⟩ := at_L3 ab.out a2 aj ak
   cases ax
   replace J := (HB.out.cell (wB w J)).trans J
   have aq := mA ad
   have aD := mA ac
   clear ad ac
   replace aj := eq_true aj
   replace ak := eq_true ak
   have al : 0 ≤ (d : Int) := ofD
   have am : d < ((Zam a a2).length : Int) := ofD
   obtain ⟨aL, ay, K⟩ := zO aq.out d al am
   cases ay
   replace K := (HB.out.cell (wB w K)).trans K
   replace al := eq_true al
   replace am := eq_true am
   go_wp2_with (first | (go_at_call 114; (with_reducible refine (Zba.calls _ _ l1 (rd (Zam a a2) d) W _ ?side1 ?side2 av.out).mono ?_); (case side1 => exact cP (zQ A.out HB.out)); (case side2 => exact ag.out); rintro e w' ⟨rfl, ⟨nd, rfl⟩⟩; (try first | exact dwD | exact dwE); have s : 0 ≤ (a3 : Int) := ofD; have u : a3 < (a.length : Int) := ofD; obtain ⟨I, ah, ai, Y, g, l, m⟩ := at_L3 ab.out a3 s u; obtain rfl : af = I := (by injection Y); replace g := (HB.out.cell (wB w g)).trans g; have y := mA m; have ae := mA l; clear m l; replace s := eq_true s; replace u := eq_true u; have v : 0 ≤ (d : Int) := ofD; have x : d < ((Zam a a3).length : Int) := ofD; obtain ⟨ap, aa, i⟩ := zO y.out d v x; cases aa; replace i := (HB.out.cell (wB w i)).trans i; replace v := eq_true v; replace x := eq_true x) | (go_at_call 114; (with_reducible refine (Zba.calls _ _ l1 (rd (Zam a a3) d) X _ ?side1 ?side2 aw.out).mono ?_); (case side1 => exact cP (zQ A.out (bW))); (case side2 => exact ag.out); rintro e w' ⟨rfl, ⟨nd, rfl⟩⟩; (try first | exact dwD | exact dwE)))
   repeat (go_quiet (first | (go_at_call 114; (with_reducible refine (Zba.calls _ _ l1 (rd (Zam a a2) d) W _ ?side1 ?side2 av.out).mono ?_); (case side1 => exact cP (zQ A.out HB.out)); (case side2 => exact ag.out); rintro e w' ⟨rfl, ⟨nd, rfl⟩⟩; (try first | exact dwD | exact dwE); have s : 0 ≤ (a3 : Int) := ofD; have u : a3 < (a.length : Int) := ofD; obtain ⟨I, ah, ai, Y, g, l, m⟩ := at_L3 ab.out a3 s u; obtain rfl : af = I := (by injection Y); replace g := (HB.out.cell (wB w g)).trans g; have y := mA m; have ae := mA l; clear m l; replace s := eq_true s; replace u := eq_true u; have v : 0 ≤ (d : Int) := ofD; have x : d < ((Zam a a3).length : Int) := ofD; obtain ⟨ap, aa, i⟩ := zO y.out d v x; cases aa; replace i := (HB.out.cell (wB w i)).trans i; replace v := eq_true v; replace x := eq_true x) | (go_at_call 114; (with_reducible refine (Zba.calls _ _ l1 (rd (Zam a a3) d) X _ ?side1 ?side2 aw.out).mono ?_); (case side1 => exact cP (zQ A.out (bW))); (case side2 => exact ag.out); rintro e w' ⟨rfl, ⟨nd, rfl⟩⟩; (try first | exact dwD | exact dwE))); try go_wp2_with (first | (go_at_call 114; (with_reducible refine (Zba.calls _ _ l1 (rd (Zam a a2) d) W _ ?side1 ?side2 av.out).mono ?_); (case side1 => exact cP (zQ A.out HB.out)); (case side2 => exact ag.out); rintro e w' ⟨rfl, ⟨nd, rfl⟩⟩; (try first | exact dwD | exact dwE); have s : 0 ≤ (a3 : Int) := ofD; have u : a3 < (a.length : Int) := ofD; obtain ⟨I, ah, ai, Y, g, l, m⟩ := at_L3 ab.out a3 s u; obtain rfl : af = I := (by injection Y); replace g := (HB.out.cell (wB w g)).trans g; have y := mA m; have ae := mA l; clear m l; replace s := eq_true s; replace u := eq_true u; have v : 0 ≤ (d : Int) := ofD; have x : d < ((Zam a a3).length : Int) := ofD; obtain ⟨ap, aa, i⟩ := zO y.out d v x; cases aa; replace i := (HB.out.cell (wB w i)).trans i; replace v := eq_true v; replace x := eq_true x) | (go_at_call 114; (with_reducible refine (Zba.calls _ _ l1 (rd (Zam a a3) d) X _ ?side1 ?side2 aw.out).mono ?_); (case side1 => exact cP (zQ A.out (bW))); (case side2 => exact ag.out); rintro e w' ⟨rfl, ⟨nd, rfl⟩⟩; (try first | exact dwD | exact dwE))))
   go_roundg k1
   case measure => have := aQ.out; omega
   case rel => exact ⟨(wrap64 (d + 1)), (eW), H', ⟨by have := aQ.out; omega⟩, ⟨bP j.out⟩, ⟨bW⟩⟩
end Go.Proofs.YtjdkedmdeajmgaaDoor.P
end M0
