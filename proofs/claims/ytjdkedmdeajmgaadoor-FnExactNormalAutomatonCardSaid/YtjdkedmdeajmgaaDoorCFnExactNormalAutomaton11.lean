import Derived.Test.YtjdkedmdeajmgaaDoorCFnExactNormalAutomaton9
section M0
namespace Go.Proofs.YtjdkedmdeajmgaaDoor.P
open Go.RowKit Go.Proofs.YtjdkedmdeajmgaaDoor.Sh Go.Proofs.YtjdkedmdeajmgaaDoorW.PrintWords Go.Proofs.YtjdkedmdeajmgaaDoorW.PrintLast Go.Proofs.YtjdkedmdeajmgaaDoorW.PrintMore
open Kd
attribute [local go_sem] Zcf Zch Zcv Zcu Zb6 Zb7 Zcg Zce   -- for this text's walks alone
set_option linter.unusedVariables false
set_option linter.unusedSimpArgs false
/-- A function that came in as a value, and what is known of it. -/
structure Zc7 where
 g : FuncId
 cb : Array Value
 enters : ∀ args w, (callFunc g args).run Tryd.prog w = .ok (.enter g args) w
 fn : Nat → Int → Option (Bool)
 fmono : ∀ x0 k, LeO (fn k x0) (fn (k + 1) x0)
 ok : World → Prop
 below : ∀ w W, ok w → Below w.heap.size w W → ok W
 fcalls : ∀ (k : Nat) (x0 : Int) (r1 : Bool) (w : World), fn k x0 = some r1 → ok w → Calls Tryd.prog g (#[.int .i64 x0] ++ cb) w fun e w' => e = .returned (.bool r1) ∧ Below w.heap.size w w'
def Zc7.f (k : Nat) (F : Zc7) (x0 : Int) : Option (Bool) := F.fn k x0
theorem Zc7.mono : ∀ F x0 k, LeO (Zc7.f k F x0) (Zc7.f (k + 1) F x0) := fun F x0 k => F.fmono x0 k
theorem Zc7.calls (k : Nat) (F : Zc7) (x0 : Int) (r1 : Bool) (w : World) (h : Zc7.f k F x0 = some r1) (hok : F.ok w) : Calls Tryd.prog F.g (#[.int .i64 x0] ++ F.cb) w fun e w' => e = .returned (.bool r1) ∧ Below w.heap.size w w' := F.fcalls k x0 r1 w h hok
theorem Zc7.okW {F : Zc7} {w W : World} (h : F.ok w) (hb : Below w.heap.size w W := by first | exact Zac.out (by assumption) | exact bW) : F.ok W := F.below w W h hb
/-- A function that came in as a value, and what is known of it. -/
structure Zcw where
 g : FuncId
 cb : Array Value
 enters : ∀ args w, (callFunc g args).run Tryd.prog w = .ok (.enter g args) w
 fn : Nat → Int → Int → Option (Int × Bool)
 fmono : ∀ x0 x1 k, LeO (fn k x0 x1) (fn (k + 1) x0 x1)
 ok : World → Prop
 below : ∀ w W, ok w → Below w.heap.size w W → ok W
 fcalls : ∀ (k : Nat) (x0 : Int) (x1 : Int) (r1 : Int) (r2 : Bool) (w : World), fn k x0 x1 = some (r1, r2) → ok w → Calls Tryd.prog g (#[.int .i64 x0, .int .i64 x1] ++ cb) w fun e w' => e = .returned (.tuple #[.int .i64 r1, .bool r2]) ∧ Below w.heap.size w w'
def Zcw.f (k : Nat) (F : Zcw) (x0 : Int) (x1 : Int) : Option (Int × Bool) := F.fn k x0 x1
theorem Zcw.mono : ∀ F x0 x1 k, LeO (Zcw.f k F x0 x1) (Zcw.f (k + 1) F x0 x1) := fun F x0 x1 k => F.fmono x0 x1 k
theorem Zcw.calls (k : Nat) (F : Zcw) (x0 : Int) (x1 : Int) (r1 : Int) (r2 : Bool) (w : World) (h : Zcw.f k F x0 x1 = some (r1, r2)) (hok : F.ok w) : Calls Tryd.prog F.g (#[.int .i64 x0, .int .i64 x1] ++ F.cb) w fun e w' => e = .returned (.tuple #[.int .i64 r1, .bool r2]) ∧ Below w.heap.size w w' := F.fcalls k x0 x1 r1 r2 w h hok
theorem Zcw.okW {F : Zcw} {w W : World} (h : F.ok w) (hb : Below w.heap.size w W := by first | exact Zac.out (by assumption) | exact bW) : F.ok W := F.below w W h hb
mutual
def Zar.l0 : Nat → Int → Int → Zcw → Zc7 → List Int → Int → List (Int × Int) → Int → Int → List Bool → List (List Int) → Option (Int × Int × List Bool × (List (List Int)) × Bool)
 | 0, _, _, _, _, _, _, _, _, _, _, _ => none
 | k + 1, x0, x2, x3, x4, g, h, e, a, b, c, d => if h < (g.length : Int) then (Zar.l1 k x0 x2 x3 x4 g h (([] : List Int)) x0 0 e a b c d) else (some (a, b, c, d, true))
def Zar.l1 : Nat → Int → Int → Zcw → Zc7 → List Int → Int → List Int → Int → Int → List (Int × Int) → Int → Int → List Bool → List (List Int) → Option (Int × Int × List Bool × (List (List Int)) × Bool)
 | 0, _, _, _, _, _, _, _, _, _, _, _, _, _, _ => none
 | k + 1, x0, x2, x3, x4, d, h, j, m, l, a, e, g, b, c => if l < m then (if 0 ≤ h then (if h < (d.length : Int) then ((Zcw.f k x3 (rd d h) l).bind fun i => (if i.2 = true then (if mhas a i.1 = true then (if j.length < 17592186044416 then (Zar.l1 k x0 x2 x3 x4 d h (j ++ [mget 0 a i.1]) m (wrap64 (l + 1)) a e g b c) else (none)) else (if d.length < 17592186044416 then (if j.length < 17592186044416 then (Zar.l1 k x0 x2 x3 x4 (d ++ [i.1]) h (j ++ [(d.length : Int)]) m (wrap64 (l + 1)) (mset a i.1 (d.length : Int)) e g b c) else (none)) else (none))) else (if j.length < 17592186044416 then (Zar.l1 k x0 x2 x3 x4 d h (j ++ [(-1)]) m (wrap64 (l + 1)) a e g b c) else (none)))) else (none)) else (none)) else (if c.length < 5864062014805 then (if 0 ≤ h then (if h < (d.length : Int) then ((Zc7.f k x4 (rd d h)).bind fun n => (if b.length < 140737488355328 then (if (d.length : Int) > x2 then (some (0, 0, ([] : List Bool), ([] : List (List Int)), false)) else (Zar.l0 k x0 x2 x3 x4 d (wrap64 (h + 1)) a e g (b ++ [n]) (c ++ [j]))) else (none))) else (none)) else (none)) else (none))
end
def Zar.f (k : Nat) (a0 : Int) (a1 : Int) (a2 : Int) (a3 : Zcw) (a4 : Zc7) : Option (Int × Int × List Bool × (List (List Int)) × Bool) := Zar.l0 k a0 a2 a3 a4 (([a1] : List Int)) 0 (mset ([] : List (Int × Int)) a1 0) a0 0 ([] : List Bool) ([] : List (List Int))
def Zar.T20 : Bool × List (List Nat × List Nat) := (true, [([], []), ([0], [0]), ([], []), ([2], [2]), ([1, 3], [1, 3]), ([], []), ([5], [5]), ([], []), ([], []), ([], []), ([8, 9], [8, 9]), ([10], [10]), ([7, 11, 4], [7, 11]), ([12], [12]), ([6, 13, 12], [6, 13]), ([0, 1, 2, 3, 4, 5, 6], []), ([15, 4, 14, 0, 1, 2, 3, 4, 5, 6], [4, 15]), ([0, 1, 2, 3, 4, 5, 6, 7, 8, 9, 10, 11, 12, 13, 14, 15, 16], []), ([17, 14, 16, 0, 1, 2, 3, 4, 5, 6, 7, 8, 9, 10, 11, 12, 13, 14, 15, 16], [14, 17])])
def Zar.B20 : List Nat := [0, 1, 0, 4, 15, 0, 32, 0, 0, 0, 768, 1792, 3999, 8095, 16383, 127, 65535, 131071, 262143]
theorem Zar.tab20 : rtab .any (opsOf Tryd.f106 20) = Zar.T20 := by kernel_rfl
theorem Zar.bits20 : Zcb Zar.T20.2 Zar.B20 = true := by kernel_rfl
set_option maxHeartbeats 8000000 in
set_option maxRecDepth 100000 in
theorem Zar.calls (k : Nat) (a0 : Int) (a1 : Int) (a2 : Int) (a3 : Zcw) (a4 : Zc7) (r1 : Int) (r2 : Int) (r3 : List Bool) (r4 : List (List Int)) (r5 : Bool) (w : World) (h : Zar.f k a0 a1 a2 a3 a4 = some (r1, r2, r3, r4, r5)) (bE : a3.ok w) (bF : a4.ok w) :
  Calls Tryd.prog 106 #[.int .i64 a0, .int .i64 a1, .int .i64 a2, .func (.func a3.g) #[] a3.cb, .func (.func a4.g) #[] a4.cb] w fun e w' => ∃ ca cc : Value, e = .returned (.tuple #[.agg #[.int .i64 r1, .int .i64 r2, ca, cc], .bool r5]) ∧ Kd.R Kd.bool 4 w' w.heap.size (fun _ => True) ca r3 ∧ Kd.S (Kd.slice 2 (Kd.int .i64)) 22 w' w.heap.size (fun _ => True) cc r4 ∧ Below w.heap.size w w' := by
 have a5 := mA bE
 clear bE
 have bG := mA bF
 clear bF
 have dN := Tryd.underlying77
 have HB := mA (Below.refl w.heap.size w)
 unfold Zar.f at h
 have H := h
 clear h
 obtain ⟨ce, aQ⟩ := nm ((([a1] : List Int)) : List Int)
 rw [← aQ.out] at H
 have H' := mA H
 clear H
 go_enter Tryd.func106, Tryd.ntmps106
 go_wp2_with (first | ((with_reducible refine Zat (N := 10) rfl ?_); refine boxS (N := 10) (cs := #[.int .i64 0, .int .i64 0, .slice none 0 0, .slice none 0 0]) (t := 77) ?_; intro D hg w6 hbox hb; have j := mA (hbox); have dj := geW (w := w) hg; have dk := geW (w := w) hg; replace HB := mA (Zaf (bW) hb); clear hb hbox hg) | ((with_reducible refine Zat (N := 23) rfl ?_); refine yP (Kd.int .i64) _ 2 ?hg (N := 23) ?hd (xs := ([a1] : List Int)) (inner := [.int .i64 a1]) (ok := fun _ => True) (okp := fun _ => True) ?hr ?hp (fun _ hk => hk) trivial (Below.refl _ _) (Nat.le_refl _) (by simp) ?_; (case hd => rfl); (case hg => rfl); (case hr => first | (go_simp; done) | (go_simp; rfl)); (case hp => exact (Reps.one (show Kd.M (Kd.int .i64) _ _ _ a1 [.int .i64 a1] from rfl) (Reps.none _ _))); intro dO w7 aZ hb hg_ hnew_; clear hg_ hnew_; (first | rw [← aQ.out] at aZ | (simp only [Int.reduceToNat] at aZ; rw [← aQ.out] at aZ)); have am := mA (zS aZ (Zaj (bW))); replace j := mA (blkB j.out hb); replace HB := mA (Zaf (bW) hb); clear hb aZ) | ((with_reducible refine Zat (N := 24) rfl ?_); refine mapS (Value.int .i64) (Value.int .i64) (N := 24) ?_; intro T hg w9 hbox hb; replace am := mA (zK (rP am.out) hb); have m := mA (hbox); have dl := geW (w := w) hg; have bb := geW (w := w) hg; replace HB := mA (Zaf (bW) hb); have ak := mA (neB hg j); have aw := mA (neC hg j); replace j := mA (blkB j.out hb); clear hb hbox hg) | ((with_reducible refine gate_mins (t := 159) rfl ?_); refine msetS (eK := (Value.int .i64)) (eV := (Value.int .i64)) (g := T) (L := ([] : List (Int × Int))) a1 0 (mkey_int .i64) (bP m.out) Tryd.underlying159 Tryd.underlying2 ?_; intro eb hbk hg; replace j := mA (Zah (g := D) (o := .cells #[.int .i64 0, .int .i64 0, .slice none 0 0, .slice none 0 0] 77 (0, 0)) (bP j.out) hg (fun e_ => ak.out (Option.some.inj e_))); replace am := mA (Kd.R_mset (rP am.out) (bP m.out) hg); replace m := mA (hbk); replace HB := mA ((fun h_ => Below.grown h_ hg h_.size (fun k_ e_ => by injection e_ with e_; rw [← e_]; exact bb.out)) (bW)); clear hg hbk) | ((with_reducible refine Zat (N := 14) rfl ?_); refine boxS (N := 14) (cs := #[.int .i64 0, .int .i64 0, .slice none 0 0, .slice none 0 0]) (t := 77) ?_; intro u hg ec hbox hb; replace am := mA (zK (rP am.out) hb); have a := mA (hbox); have dm := geW (w := w) hg; have dn := geW (w := w) hg; replace HB := mA (Zaf (bW) hb); have E := mA (neB hg j); have U := mA (neC hg j); replace j := mA (blkB j.out hb); have J := mA (neB hg m); have W := mA (neC hg m); replace m := mA (blkB m.out hb); clear hb hbox hg; have dp := U.out; have dq := E.out; have dr := W.out; have dt := J.out; obtain ⟨bu, bv, bw, bx⟩ := Zbl a.out; obtain ⟨bz, bB, bC, bD⟩ := frz4 a.out))
 go_loopg [12, 15] k (fun kq v12 v15 w' => ∃ (ao : List Int) (y : Int) (B : Int) (z : Int) (ad : List (Int × Int)) (G : List Bool) (I : List (List Int)) (A : Value) (x : Value), v15 = .int .i64 y ∧ Zac (Zar.l0 kq a0 a2 a3 a4 ao y ad a0 0 G I = some (r1, r2, r3, r4, r5)) ∧ Zac (kq ≤ k) ∧ Zac (Kd.R (Kd.int .i64) 2 w' w.heap.size (fun _ => True) v12 ao) ∧ Zac (Kd.R Kd.bool 4 w' w.heap.size (fun _ => True) A G) ∧ Zac (Kd.S (Kd.slice 2 (Kd.int .i64)) 22 w' w.heap.size (fun k_ => some k_ ≠ (v12 : Value).ownBlock) x I) ∧ Zac (w'.heap[D]? = some (.cells #[.int .i64 B, .int .i64 z, (.slice none 0 0), (.slice none 0 0)] 77 (0, 0))) ∧ Zac (w'.heap[T]? = some (mobj (Value.int .i64) (Value.int .i64) ad)) ∧ Zac (w'.heap[u]? = some (.cells #[.int .i64 a0, .int .i64 0, A, x] 77 (0, 0))) ∧ Zac (Below w.heap.size w w'))
 case atStart => exact ⟨(ce), (0), (0), (0), (mset ([] : List (Int × Int)) a1 0), (([] : List Bool)), (([] : List (List Int))), (.slice none 0 0), (.slice none 0 0), (eW), H', ⟨Nat.le_refl _⟩, ⟨by (with_reducible repeat (first | apply zC | apply zD | apply zA)); exact zB (zF (p := ⟨u, 3, none⟩) (zF (p := ⟨u, 2, none⟩) (zF (p := ⟨u, 1, none⟩) (zF (p := ⟨u, 0, none⟩) (zV am.out a.out (by decide)) (fun _ hk => hk.2) (.int .i64 a0)) (fun _ hk => hk.2) (.int .i64 0)) (fun _ hk => hk.2) (.slice none 0 0)) (fun _ hk => hk.2) (.slice none 0 0)) (fun _ hk => trivial)⟩, ⟨by first | exact yR _ _ _ _ _ | exact yW _ _ _ _ _ | exact yX _ _ _ _ _ | exact yT _ _ _ _ _ | exact yU _ _ _ _ _⟩, ⟨by first | exact yU _ _ _ _ _ | exact yW _ _ _ _ _ | exact yX _ _ _ _ _ | exact yT _ _ _ _ _ | exact yR _ _ _ _ _⟩, ⟨by (with_reducible repeat (first | refine Zad ?_ _ | refine Zaa ?_ | refine Zab ?_ _)); refine Zbt ?_ E.out _; (with_reducible repeat (first | refine Zad ?_ _ | refine Zaa ?_ | refine Zab ?_ _)); refine Zbt ?_ E.out _; (with_reducible repeat (first | refine Zad ?_ _ | refine Zaa ?_ | refine Zab ?_ _)); refine Zbt ?_ E.out _; (with_reducible repeat (first | refine Zad ?_ _ | refine Zaa ?_ | refine Zab ?_ _)); refine Zbt ?_ E.out _; exact bP j.out⟩, ⟨by (with_reducible repeat (first | refine Zad ?_ _ | refine Zaa ?_ | refine Zab ?_ _)); refine Zbt ?_ J.out _; (with_reducible repeat (first | refine Zad ?_ _ | refine Zaa ?_ | refine Zab ?_ _)); refine Zbt ?_ J.out _; (with_reducible repeat (first | refine Zad ?_ _ | refine Zaa ?_ | refine Zab ?_ _)); refine Zbt ?_ J.out _; (with_reducible repeat (first | refine Zad ?_ _ | refine Zaa ?_ | refine Zab ?_ _)); refine Zbt ?_ J.out _; exact bP m.out⟩, ⟨by (with_reducible repeat (first | refine Zad ?_ _ | refine Zaa ?_ | refine Zab ?_ _)); refine Zau (cs := #[.int .i64 a0, .int .i64 0, .slice none 0 0, .slice none 0 0]) ?_ 3 _ rfl; (with_reducible repeat (first | refine Zad ?_ _ | refine Zaa ?_ | refine Zab ?_ _)); refine Zau (cs := #[.int .i64 a0, .int .i64 0, .slice none 0 0, .slice none 0 0]) ?_ 2 _ rfl; (with_reducible repeat (first | refine Zad ?_ _ | refine Zaa ?_ | refine Zab ?_ _)); refine Zau (cs := #[.int .i64 a0, .int .i64 0, .slice none 0 0, .slice none 0 0]) ?_ 1 _ rfl; (with_reducible repeat (first | refine Zad ?_ _ | refine Zaa ?_ | refine Zab ?_ _)); refine Zau (cs := #[.int .i64 0, .int .i64 0, .slice none 0 0, .slice none 0 0]) ?_ 0 _ rfl; exact bP a.out⟩, ⟨bW⟩⟩
 case round =>
  clear H' bu bv bw bx bz bB bC bD
  obtain ⟨ao, y, B, z, ad, G, I, A, x, rfl, HA, ax, l, c, d, j, m, a, HB⟩ := hrel
  cases gk with
  | zero => exact absurd HA.out (by simp [Zar.l0])
  | succ k1 =>
   have H := HA.out
   clear HA
   simp only [Zar.l0] at H
   by_cases aH : y < (ao.length : Int); rotate_left
   ·rw [if_neg aH] at H
    have bd := dF aH
    clear aH
    simp only [Option.some.injEq, Prod.mk.injEq] at H
    obtain ⟨rfl, rfl, rfl, rfl, rfl⟩ := H
    obtain ⟨dP, dQ, cf⟩ := zP l.out
    subst cf
    have du := U.out
    have dv := E.out
    have dw := W.out
    have dx := J.out
    have cw : wr.cell? ⟨u, 0, none⟩ = some (.int .i64 a0) := bc a 0
    have cx : wr.cell? ⟨u, 1, none⟩ = some (.int .i64 0) := bc a 1
    have cy : wr.cell? ⟨u, 2, none⟩ = some (A) := bc a 2
    have cz : wr.cell? ⟨u, 3, none⟩ = some (x) := bc a 3
    have cA := Zae a.out 0
    have cB := Zae a.out 1
    have cC := Zae a.out 2
    have cD := Zae a.out 3
    have dy := ak.out
    have dz := aw.out
    have cE : wr.cell? ⟨D, 0, none⟩ = some (.int .i64 B) := bc j 0
    have cF : wr.cell? ⟨D, 1, none⟩ = some (.int .i64 z) := bc j 1
    have cG : wr.cell? ⟨D, 2, none⟩ = some (.slice none 0 0) := bc j 2
    have cH : wr.cell? ⟨D, 3, none⟩ = some (.slice none 0 0) := bc j 3
    have cI := Zae j.out 0
    have cJ := Zae j.out 1
    have cK := Zae j.out 2
    have cL := Zae j.out 3
    obtain ⟨aR, aT, cg⟩ := zP c.out
    subst cg
    obtain ⟨a6, a7, ch⟩ := yE d.out
    subst ch
    go_wp2
    refine bodyPost_ret (Zdh rfl _ _ D 77 #[.int .i64 a0, .int .i64 0, .slice aR G.length aT, .slice a6 I.length a7] (0, 0) _ rfl (by (with_reducible repeat (first | refine Zad ?_ _ | refine Zaa ?_ | refine Zab ?_ _)); refine Zau (cs := #[.int .i64 a0, .int .i64 0, .slice aR G.length aT, .slice none 0 0]) ?_ 3 _ rfl; (with_reducible repeat (first | refine Zad ?_ _ | refine Zaa ?_ | refine Zab ?_ _)); refine Zau (cs := #[.int .i64 a0, .int .i64 0, .slice none 0 0, .slice none 0 0]) ?_ 2 _ rfl; (with_reducible repeat (first | refine Zad ?_ _ | refine Zaa ?_ | refine Zab ?_ _)); refine Zau (cs := #[.int .i64 a0, .int .i64 z, .slice none 0 0, .slice none 0 0]) ?_ 1 _ rfl; (with_reducible repeat (first | refine Zad ?_ _ | refine Zaa ?_ | refine Zab ?_ _)); refine Zau (cs := #[.int .i64 B, .int .i64 z, .slice none 0 0, .slice none 0 0]) ?_ 0 _ rfl; exact bP j.out) Tryd.underlying77 rfl (by kernel_rfl)) rfl ?_
    exact ⟨_, _, eW, by (with_reducible repeat (first | apply zC | apply zD | apply zA)); exact zB (zF (p := ⟨D, 3, none⟩) (zF (p := ⟨D, 2, none⟩) (zF (p := ⟨D, 1, none⟩) (zF (p := ⟨D, 0, none⟩) (zV c.out j.out (by decide)) (fun _ hk => hk.2) (.int .i64 a0)) (fun _ hk => hk.2) (.int .i64 0)) (fun _ hk => hk.2) (.slice aR G.length aT)) (fun _ hk => hk.2) (.slice a6 I.length a7)) (fun _ hk => trivial), by (with_reducible repeat (first | apply zL | apply zM | apply zH)); exact zG (zE (p := ⟨D, 3, none⟩) (zE (p := ⟨D, 2, none⟩) (zE (p := ⟨D, 1, none⟩) (zE (p := ⟨D, 0, none⟩) (zX d.out j.out (by decide)) (fun _ hk => hk.2) (.int .i64 a0)) (fun _ hk => hk.2) (.int .i64 0)) (fun _ hk => hk.2) (.slice aR G.length aT)) (fun _ hk => hk.2) (.slice a6 I.length a7)) (fun _ hk => trivial), bW⟩
   rw [if_pos aH] at H
   have bd := dT aH
   clear aH
   obtain ⟨bH, aU⟩ : ∃ y_ : List Int, y_ = (([] : List Int)) := ⟨_, rfl⟩
   replace H : (Zar.l1 k1 a0 a2 a3 a4 ao y bH a0 0 ad a0 0 G I) = some (r1, r2, r3, r4, r5) := by rw [aU]; with_reducible exact H
   have bf := mA aU
   clear aU
   have H' := mA H
   clear H
   obtain ⟨dR, dS, ci⟩ := zP l.out
   subst ci
   go_wp2_with (first | ((with_reducible refine Zat (N := 35) rfl ?_); refine yP (Kd.int .i64) _ 2 ?hg (N := 35) ?hd (xs := ([] : List Int)) (inner := []) (ok := fun _ => True) (okp := fun _ => True) ?hr ?hp (fun _ hk => hk) trivial (Below.refl _ _) (Nat.le_refl _) (by simp) ?_; (case hd => rfl); (case hg => rfl); (case hr => first | (go_simp; done) | (go_simp; rfl)); (case hp => exact (Reps.none _ _)); intro dU ed ap hb hg_ hnew_; clear hg_ hnew_; (first | rw [← bf.out] at ap | (simp only [Int.reduceToNat] at ap; rw [← bf.out] at ap)); replace c := mA (zK (rP c.out) hb); replace d := mA (yQ (sP d.out) (zU ap) hb); have bZ := mA (zS (yC ap (zI (rP l.out))) (Zaj (bW))); replace l := mA (zZ (rP l.out) (zU ap) hb); replace j := mA (blkB j.out hb); replace m := mA (blkB m.out hb); replace a := mA (blkB a.out hb); replace HB := mA (Zaf (bW) hb); clear hb ap))
   go_loopg [12, 16, 37] k1 (fun kq v12 v16 v37 w' => ∃ (q : List Int) (O : List Int) (aa : Int) (r : List (Int × Int)), v37 = .int .i64 aa ∧ Zac (Zar.l1 kq a0 a2 a3 a4 q y O a0 aa r a0 0 G I = some (r1, r2, r3, r4, r5)) ∧ Zac (kq ≤ k1) ∧ Zac (Kd.R (Kd.int .i64) 2 w' w.heap.size (fun k_ => some k_ ≠ (v16 : Value).ownBlock) v12 q) ∧ Zac (Kd.R (Kd.int .i64) 2 w' w.heap.size (fun k_ => some k_ ≠ (v12 : Value).ownBlock) v16 O) ∧ Zac (Kd.R Kd.bool 4 w' w.heap.size (fun _ => True) A G) ∧ Zac (Kd.S (Kd.slice 2 (Kd.int .i64)) 22 w' w.heap.size (fun k_ => some k_ ≠ (v12 : Value).ownBlock ∧ some k_ ≠ (v16 : Value).ownBlock) x I) ∧ Zac (w'.heap[D]? = some (.cells #[.int .i64 B, .int .i64 z, (.slice none 0 0), (.slice none 0 0)] 77 (0, 0))) ∧ Zac (w'.heap[T]? = some (mobj (Value.int .i64) (Value.int .i64) r)) ∧ Zac (w'.heap[u]? = some (.cells #[.int .i64 a0, .int .i64 0, A, x] 77 (0, 0))) ∧ Zac (Below w.heap.size w w'))
   case atStart => exact ⟨(ao), (bH), (0), (ad), (eW), H', ⟨Nat.le_refl _⟩, ⟨by (with_reducible repeat (first | apply zC | apply zD | apply zA)); exact zB l.out (fun _ hk => hk.2)⟩, ⟨by (with_reducible repeat (first | apply zC | apply zD | apply zA)); exact zB bZ.out (fun _ hk => hk.2)⟩, ⟨rP c.out⟩, ⟨sP d.out⟩, ⟨bP j.out⟩, ⟨bP m.out⟩, ⟨bP a.out⟩, ⟨bW⟩⟩
   case round =>
    clear H' bd
    obtain ⟨q, O, aa, r, rfl, HA, ay, l, s, c, d, j, m, a, HB⟩ := hrel
    cases gk with
    | zero => exact absurd HA.out (by simp [Zar.l1])
    | succ k2 =>
     have H := HA.out
     clear HA
     simp only [Zar.l1] at H
     by_cases aI : aa < a0
     ·rw [if_pos aI] at H
      have b0 := dT aI
      clear aI
      obtain ⟨dA, H⟩ := gE H
      obtain ⟨dB, H⟩ := gE H
      obtain ⟨⟨P, cj⟩, A22, H⟩ := bA H
      try dsimp only at H
      by_cases bg : cj = true; rotate_left
      ·replace bg := Bool.eq_false_iff.mpr bg
       subst bg
       rw [iF] at H
       by_cases bh : O.length < 17592186044416; rotate_left
       ·rw [if_neg bh] at H
        exact absurd H (by simp)
       rw [if_pos bh] at H
       have b1 := mA bh
       clear bh
       obtain ⟨ck, bi⟩ := nm ((O ++ [(-1)]) : List Int)
       rw [← bi.out] at H
       have H' := mA H
       clear H
       obtain ⟨dV, bI, cm⟩ := zP l.out
       subst cm
       have af : 0 ≤ (y : Int) := ofD
       have ag : y < (q.length : Int) := ofD
       obtain ⟨an, aC, aJ⟩ := zO (zJ l.out).2.2 y af ag
       cases aC
       replace af := eq_true af
       replace ag := eq_true ag
       go_wp2_with (first | ((with_reducible refine gate_fv rfl ?_); refine goesF_ (some 47) rfl rfl a3.enters #[.int .i64 (rd q y), .int .i64 aa] rfl rfl (by (try simp only [List.map_toArray, List.map_cons, List.map_nil]); first | done | rfl | (simp only [List.length_drop, List.length_take]; rfl)) ?_; (with_reducible refine (Zcw.calls k2 a3 (rd q y) aa P false _ A22.out (Zcw.okW a5.out)).mono ?_); rintro e ee ⟨rfl, hb⟩; refine ⟨_, rfl, ?_⟩; replace l := mA (zK (rP l.out) hb); replace s := mA (zK (rP s.out) hb); replace c := mA (zK (rP c.out) hb); replace d := mA (zW (sP d.out) hb); replace j := mA (blkB j.out hb); replace m := mA (blkB m.out hb); replace a := mA (blkB a.out hb); replace HB := mA (Zaf (bW) hb); (try clear hb); (try clear hb2); (try clear hk); (try clear hi)) | ((with_reducible refine Za6 (b := .append) (xs := #[.tmp 52, .tmp 53]) rfl ?_); at_builtin; refine yO (Kd.int .i64) (w0 := w) w.heap.size rfl (.tmp 52) (.tmp 53) 22 2 (.int .i64 0) 8 rfl Tryd.underlying22 Zci rfl (by decide) (by omega) u16 O (-1) [.int .i64 (-1)] (fun k_ => some k_ ≠ (.slice (some an) q.length bI : Value).ownBlock) (fun _ => False) rfl rfl ?aP (fun _ hk => hk.elim) ?aF ?aO ?aB ?aS ?aL ?_; (case aP => exact rfl); (case aB => exact (bW)); (case aF => exact (fun k_ hk => zT (zI (rP l.out)) k_ hk)); (case aO => exact (rP s.out)); (case aS => exact (Zaj (bW))); (case aL => have := b1.out; omega); intro dW ef ho hb hg hat; rw [← bi.out] at ho; replace l := mA (zR (ok := (fun _ => True)) (by (with_reducible repeat (first | apply zC | apply zD | apply zA)); exact zB l.out (fun _ hk => ⟨trivial, hk⟩)) hg hat); replace c := mA (yB (rP c.out) (zY (rP s.out)) (by decide) hg); replace d := mA (yJ (ok := (fun k_ => some k_ ≠ (.slice (some an) q.length bI : Value).ownBlock)) (sP d.out) hg hat); replace j := mA (Zah (g := D) (o := .cells #[.int .i64 B, .int .i64 z, .slice none 0 0, .slice none 0 0] 77 (0, 0)) (bP j.out) hg (zN s.out j.out (by decide))); replace m := mA (Zah (g := T) (o := mobj (Value.int .i64) (Value.int .i64) r) (bP m.out) hg (Kd.R_nem s.out m.out)); replace a := mA (Zah (g := u) (o := .cells #[.int .i64 a0, .int .i64 0, A, x] 77 (0, 0)) (bP a.out) hg (zN s.out a.out (by decide))); replace HB := mA (hb); have b2 := mA (ho); clear s ho hb hg hat))
       go_roundg k2
       case measure => have := ax.out; have := ay.out; omega
       case rel => exact ⟨(q), (ck), (wrap64 (aa + 1)), (r), (eW), H', ⟨by have := ax.out; have := ay.out; omega⟩, ⟨by (with_reducible repeat (first | apply zC | apply zD | apply zA)); exact zB l.out (fun _ hk => hk.2)⟩, ⟨rP b2.out⟩, ⟨rP c.out⟩, ⟨sP d.out⟩, ⟨bP j.out⟩, ⟨bP m.out⟩, ⟨bP a.out⟩, ⟨bW⟩⟩
      subst bg
      rw [if_pos rfl] at H
      by_cases aK : mhas r P = true
      ·rw [if_pos aK] at H
       have b3 : mhas r P = true := aK
       clear aK
       by_cases bj : O.length < 17592186044416; rotate_left
       ·rw [if_neg bj] at H
        exact absurd H (by simp)
       rw [if_pos bj] at H
       have b4 := mA bj
       clear bj
       obtain ⟨cn, bk⟩ := nm ((O ++ [mget 0 r P]) : List Int)
       rw [← bk.out] at H
       have H' := mA H
       clear H
       obtain ⟨dX, bJ, co⟩ := zP l.out
       subst co
       have af : 0 ≤ (y : Int) := ofD
       have ag : y < (q.length : Int) := ofD
       obtain ⟨an, aC, aJ⟩ := zO (zJ l.out).2.2 y af ag
       cases aC
       replace af := eq_true af
       replace ag := eq_true ag
       go_wp2_with (first | ((with_reducible refine gate_fv rfl ?_); refine goesF_ (some 47) rfl rfl a3.enters #[.int .i64 (rd q y), .int .i64 aa] rfl rfl (by (try simp only [List.map_toArray, List.map_cons, List.map_nil]); first | done | rfl | (simp only [List.length_drop, List.length_take]; rfl)) ?_; (with_reducible refine (Zcw.calls k2 a3 (rd q y) aa P true _ A22.out (Zcw.okW a5.out)).mono ?_); rintro e eg ⟨rfl, hb⟩; refine ⟨_, rfl, ?_⟩; replace l := mA (zK (rP l.out) hb); replace s := mA (zK (rP s.out) hb); replace c := mA (zK (rP c.out) hb); replace d := mA (zW (sP d.out) hb); replace j := mA (blkB j.out hb); replace m := mA (blkB m.out hb); replace a := mA (blkB a.out hb); replace HB := mA (Zaf (bW) hb); (try clear hb); (try clear hb2); (try clear hk); (try clear hi)) | ((with_reducible refine Zat (N := 58) rfl ?_); refine mgetS (eK := (Value.int .i64)) (eV := (Value.int .i64)) (g := T) (L := r) 0 P (mkey_int .i64) (bP m.out) Tryd.underlying159 Tryd.underlying2 (Tryd.zeroValue2 _) ?_) | ((with_reducible refine Za6 (b := .append) (xs := #[.tmp 72, .tmp 74]) rfl ?_); at_builtin; refine yO (Kd.int .i64) (w0 := w) w.heap.size rfl (.tmp 72) (.tmp 74) 22 2 (.int .i64 0) 8 rfl Tryd.underlying22 Zci rfl (by decide) (by omega) u16 O (mget 0 r P) [.int .i64 (mget 0 r P)] (fun k_ => some k_ ≠ (.slice (some an) q.length bJ : Value).ownBlock) (fun _ => False) rfl rfl ?aP (fun _ hk => hk.elim) ?aF ?aO ?aB ?aS ?aL ?_; (case aP => exact rfl); (case aB => exact (bW)); (case aF => exact (fun k_ hk => zT (zI (rP l.out)) k_ hk)); (case aO => exact (rP s.out)); (case aS => exact (Zaj (bW))); (case aL => have := b4.out; omega); intro dY eh ho hb hg hat; rw [← bk.out] at ho; replace l := mA (zR (ok := (fun _ => True)) (by (with_reducible repeat (first | apply zC | apply zD | apply zA)); exact zB l.out (fun _ hk => ⟨trivial, hk⟩)) hg hat); replace c := mA (yB (rP c.out) (zY (rP s.out)) (by decide) hg); replace d := mA (yJ (ok := (fun k_ => some k_ ≠ (.slice (some an) q.length bJ : Value).ownBlock)) (sP d.out) hg hat); replace j := mA (Zah (g := D) (o := .cells #[.int .i64 B, .int .i64 z, .slice none 0 0, .slice none 0 0] 77 (0, 0)) (bP j.out) hg (zN s.out j.out (by decide))); replace m := mA (Zah (g := T) (o := mobj (Value.int .i64) (Value.int .i64) r) (bP m.out) hg (Kd.R_nem s.out m.out)); replace a := mA (Zah (g := u) (o := .cells #[.int .i64 a0, .int .i64 0, A, x] 77 (0, 0)) (bP a.out) hg (zN s.out a.out (by decide))); replace HB := mA (hb); have b5 := mA (ho); clear s ho hb hg hat))
       go_roundg k2
       case measure => have := ax.out; have := ay.out; omega
       case rel => exact ⟨(q), (cn), (wrap64 (aa + 1)), (r), (eW), H', ⟨by have := ax.out; have := ay.out; omega⟩, ⟨by (with_reducible repeat (first | apply zC | apply zD | apply zA)); exact zB l.out (fun _ hk => hk.2)⟩, ⟨rP b5.out⟩, ⟨rP c.out⟩, ⟨sP d.out⟩, ⟨bP j.out⟩, ⟨bP m.out⟩, ⟨bP a.out⟩, ⟨bW⟩⟩
      rw [if_neg aK] at H
      have b3 : mhas r P = false := by simpa using aK
      clear aK
      by_cases bl : q.length < 17592186044416; rotate_left
      ·rw [if_neg bl] at H
       exact absurd H (by simp)
      rw [if_pos bl] at H
      have b6 := mA bl
      clear bl
      obtain ⟨cp, bm⟩ := nm ((q ++ [P]) : List Int)
      rw [← bm.out] at H
      by_cases bn : O.length < 17592186044416; rotate_left
      ·rw [if_neg bn] at H
       exact absurd H (by simp)
      rw [if_pos bn] at H
      have b7 := mA bn
      clear bn
      obtain ⟨cq, bo⟩ := nm ((O ++ [(q.length : Int)]) : List Int)
      rw [← bo.out] at H
      have H' := mA H
      clear H
      obtain ⟨dZ, cr, ct⟩ := zP l.out
      subst ct
      have af : 0 ≤ (y : Int) := ofD
      have ag : y < (q.length : Int) := ofD
      obtain ⟨an, aC, aJ⟩ := zO (zJ l.out).2.2 y af ag
      cases aC
      replace af := eq_true af
      replace ag := eq_true ag
      go_wp2_with (first | ((with_reducible refine gate_fv rfl ?_); refine goesF_ (some 47) rfl rfl a3.enters #[.int .i64 (rd q y), .int .i64 aa] rfl rfl (by (try simp only [List.map_toArray, List.map_cons, List.map_nil]); first | done | rfl | (simp only [List.length_drop, List.length_take]; rfl)) ?_; (with_reducible refine (Zcw.calls k2 a3 (rd q y) aa P true _ A22.out (Zcw.okW a5.out)).mono ?_); rintro e ei ⟨rfl, hb⟩; refine ⟨_, rfl, ?_⟩; replace l := mA (zK (rP l.out) hb); replace s := mA (zK (rP s.out) hb); replace c := mA (zK (rP c.out) hb); replace d := mA (zW (sP d.out) hb); replace j := mA (blkB j.out hb); replace m := mA (blkB m.out hb); replace a := mA (blkB a.out hb); replace HB := mA (Zaf (bW) hb); (try clear hb); (try clear hb2); (try clear hk); (try clear hi)) | ((with_reducible refine Zat (N := 58) rfl ?_); refine mgetS (eK := (Value.int .i64)) (eV := (Value.int .i64)) (g := T) (L := r) 0 P (mkey_int .i64) (bP m.out) Tryd.underlying159 Tryd.underlying2 (Tryd.zeroValue2 _) ?_) | ((with_reducible refine gate_mset (t := 159) rfl ?_); refine msetS (eK := (Value.int .i64)) (eV := (Value.int .i64)) (g := T) (L := r) P (q.length : Int) (mkey_int .i64) (bP m.out) Tryd.underlying159 Tryd.underlying2 ?_; intro ej hbk hg; replace l := mA (Kd.R_mset (rP l.out) (bP m.out) hg); replace s := mA (Kd.R_mset (rP s.out) (bP m.out) hg); replace c := mA (Kd.R_mset (rP c.out) (bP m.out) hg); replace d := mA (Kd.S_mset (sP d.out) (bP m.out) hg); replace j := mA (Zah (g := D) (o := .cells #[.int .i64 B, .int .i64 z, .slice none 0 0, .slice none 0 0] 77 (0, 0)) (bP j.out) hg (fun e_ => ak.out (Option.some.inj e_))); replace m := mA (hbk); replace a := mA (Zah (g := u) (o := .cells #[.int .i64 a0, .int .i64 0, A, x] 77 (0, 0)) (bP a.out) hg (fun e_ => W.out (Option.some.inj e_))); replace HB := mA ((fun h_ => Below.grown h_ hg h_.size (fun k_ e_ => by injection e_ with e_; rw [← e_]; exact bb.out)) (bW)); clear hg hbk) | ((with_reducible refine Za6 (b := .append) (xs := #[.tmp 68, .tmp 70]) rfl ?_); at_builtin; refine yO (Kd.int .i64) (w0 := w) w.heap.size rfl (.tmp 68) (.tmp 70) 22 2 (.int .i64 0) 8 rfl Tryd.underlying22 Zci rfl (by decide) (by omega) (.slice (some an) q.length cr) q P [.int .i64 P] (fun k_ => some k_ ≠ (u16 : Value).ownBlock) (fun _ => False) rfl rfl ?aP (fun _ hk => hk.elim) ?aF ?aO ?aB ?aS ?aL ?_; (case aP => exact rfl); (case aB => exact (bW)); (case aF => exact (fun k_ hk => zT (zI (rP s.out)) k_ hk)); (case aO => exact (rP l.out)); (case aS => exact (Zaj (bW))); (case aL => have := b6.out; omega); intro bK ek ho hb hg hat; rw [← bm.out] at ho; replace s := mA (zR (ok := (fun _ => True)) (by (with_reducible repeat (first | apply zC | apply zD | apply zA)); exact zB s.out (fun _ hk => ⟨trivial, hk⟩)) hg hat); replace c := mA (yB (rP c.out) (zY (rP l.out)) (by decide) hg); replace d := mA (yJ (ok := (fun k_ => some k_ ≠ (u16 : Value).ownBlock)) (by (with_reducible repeat (first | apply zL | apply zM | apply zH)); exact zG d.out (fun _ hk => ⟨hk.2, hk.1⟩)) hg hat); replace j := mA (Zah (g := D) (o := .cells #[.int .i64 B, .int .i64 z, .slice none 0 0, .slice none 0 0] 77 (0, 0)) (bP j.out) hg (zN l.out j.out (by decide))); replace m := mA (Zah (g := T) (o := mobj (Value.int .i64) (Value.int .i64) (mset r P (q.length : Int))) (bP m.out) hg (Kd.R_nem l.out m.out)); replace a := mA (Zah (g := u) (o := .cells #[.int .i64 a0, .int .i64 0, A, x] 77 (0, 0)) (bP a.out) hg (zN l.out a.out (by decide))); replace HB := mA (hb); have az := mA (ho); clear l ho hb hg hat) | ((with_reducible refine Za6 (b := .append) (xs := #[.tmp 72, .tmp 74]) rfl ?_); at_builtin; refine yO (Kd.int .i64) (w0 := w) w.heap.size rfl (.tmp 72) (.tmp 74) 22 2 (.int .i64 0) 8 rfl Tryd.underlying22 Zci rfl (by decide) (by omega) u16 O (q.length : Int) [.int .i64 (q.length : Int)] (fun k_ => some k_ ≠ (bK : Value).ownBlock) (fun _ => False) rfl rfl ?aP (fun _ hk => hk.elim) ?aF ?aO ?aB ?aS ?aL ?_; (case aP => exact rfl); (case aB => exact (bW)); (case aF => exact (fun k_ hk => zT (zI (rP az.out)) k_ hk)); (case aO => exact (by (with_reducible repeat (first | apply zC | apply zD | apply zA)); exact zB s.out (fun _ hk => hk.2))); (case aS => exact (Zaj (bW))); (case aL => have := b7.out; omega); intro d0 el ho hb hg hat; rw [← bo.out] at ho; replace c := mA (yB (rP c.out) (zY (rP s.out)) (by decide) hg); replace d := mA (yJ (ok := (fun k_ => some k_ ≠ (bK : Value).ownBlock)) (by (with_reducible repeat (first | apply zL | apply zM | apply zH)); exact zG d.out (fun _ hk => ⟨hk.2, hk.1⟩)) hg hat); replace j := mA (Zah (g := D) (o := .cells #[.int .i64 B, .int .i64 z, .slice none 0 0, .slice none 0 0] 77 (0, 0)) (bP j.out) hg (zN s.out j.out (by decide))); replace m := mA (Zah (g := T) (o := mobj (Value.int .i64) (Value.int .i64) (mset r P (q.length : Int))) (bP m.out) hg (Kd.R_nem s.out m.out)); replace a := mA (Zah (g := u) (o := .cells #[.int .i64 a0, .int .i64 0, A, x] 77 (0, 0)) (bP a.out) hg (zN s.out a.out (by decide))); replace az := mA (zR (ok := (fun _ => True)) (by (with_reducible repeat (first | apply zC | apply zD | apply zA)); exact zB az.out (fun _ hk => ⟨trivial, hk⟩)) hg hat); replace HB := mA (hb); have b8 := mA (ho); clear s ho hb hg hat))
      go_roundg k2
      case measure => have := ax.out; have := ay.out; omega
      case rel => exact ⟨(cp), (cq), (wrap64 (aa + 1)), (mset r P (q.length : Int)), (eW), H', ⟨by have := ax.out; have := ay.out; omega⟩, ⟨by (with_reducible repeat (first | apply zC | apply zD | apply zA)); exact zB az.out (fun _ hk => hk.2)⟩, ⟨rP b8.out⟩, ⟨rP c.out⟩, ⟨sP d.out⟩, ⟨bP j.out⟩, ⟨bP m.out⟩, ⟨bP a.out⟩, ⟨bW⟩⟩
     rw [if_neg aI] at H
     have b0 := dF aI
     clear aI
     by_cases bp : I.length < 5864062014805; rotate_left
     ·rw [if_neg bp] at H
      exact absurd H (by simp)
     rw [if_pos bp] at H
     have bq := mA bp
     clear bp
     obtain ⟨av, aV⟩ := nm ((I ++ [O]) : List (List Int))
     rw [← aV.out] at H
     obtain ⟨dC, H⟩ := gE H
     obtain ⟨dD, H⟩ := gE H
     obtain ⟨aq, cd, H⟩ := bA H
     by_cases br : G.length < 140737488355328; rotate_left
     ·rw [if_neg br] at H
      exact absurd H (by simp)
     rw [if_pos br] at H
     have bs := mA br
     clear br
     obtain ⟨aD, aW⟩ := nm ((G ++ [aq]) : List Bool)
     rw [← aW.out] at H
     by_cases aM : (q.length : Int) > a2; rotate_left
     ·rw [if_neg aM] at H
      have b9 : decide (a2 < (q.length : Int)) = false := dF aM
      clear aM
      have H' := mA H
      clear H
      try go_wp2
      replace l := mA (zA l.out)
      replace s := mA (zA s.out)
      replace c := mA (zA c.out)
      replace d := mA (zH d.out)
      replace j := mA (Zaa j.out)
      replace m := mA (Zaa m.out)
      replace a := mA (Zaa a.out)
      replace HB := mA (Za1 HB.out)
      obtain ⟨d1, a8, bL⟩ := zP l.out
      (first | subst bL | (injection bL with X ah Y; have ai := X.symm; have aj := Y.symm; clear X ah Y; subst ai; subst aj))
      have ar : 0 ≤ (y : Int) := ofD
      have au : y < (q.length : Int) := ofD
      obtain ⟨ae, a9, al⟩ := zO (zJ l.out).2.2 y ar au
      cases a9
      replace ar := eq_true ar
      replace au := eq_true au
      obtain ⟨bM, bN, bO⟩ := zP s.out
      (first | subst bO | (injection bO with X ah Y; have ai := X.symm; have aj := Y.symm; clear X ah Y; subst ai; subst aj))
      refine Zck (n := 19) (S := fun w' => w'.cell? ⟨u, 0, none⟩ = some (.int .i64 a0) ∧ w'.cell? ⟨u, 1, none⟩ = some (.int .i64 0) ∧ w'.cell? ⟨u, 2, none⟩ = some (A) ∧ w'.cell? ⟨u, 3, none⟩ = some (x) ∧ w'.cell? (ae.add (y).toNat) = some (.int .i64 (rd q y))) (ds := [16, 18]) #[false, false, false, false, false, false, false, false, false, false, false, false, false, false, false, false, false, false, false] (by kernel_rfl) rfl rfl ⟨bc a 0, bc a 1, bc a 2, bc a 3, al⟩ (fun hHeld => ?_); refine Zb5 Zar.tab20 Zar.bits20 (fun HT_ HW_ => ?_)
      generalize wr.drew = w59 at l s c d j m a HB al hHeld ⊢
      refine Zas (i := 0) (N := some 77) (Zap HT_.out (by kernel_rfl)) ?_
      refine Zas (i := 2) (N := some 79) (Zap HT_.out (by kernel_rfl)) ?_
      refine Zas (i := 5) (N := some 82) (Zap HT_.out (by kernel_rfl)) ?_
      refine Zas (i := 7) (N := some 84) (Zap HT_.out (by kernel_rfl)) ?_
      refine Zas (i := 8) (N := some 85) (Zap HT_.out (by kernel_rfl)) ?_
      refine Zas (i := 9) (N := some 86) (Zap HT_.out (by kernel_rfl)) ?_
      refine Zas (i := 10) (N := some 87) (Zap HT_.out (by kernel_rfl)) ?_
      refine Zbg (i := 1) (N := some 78) (Za0 HT_.out HW_.out (by kernel_rfl)) hHeld ?_
      refine Zbg (i := 6) (N := some 83) (Za0 HT_.out HW_.out (by kernel_rfl)) hHeld ?_
      refine Zbg (i := 11) (N := some 88) (Za0 HT_.out HW_.out (by kernel_rfl)) hHeld ?_
      refine one_ (i := 3) (N := some 80) #[true, true, true, true, false, true, true, true, true, true, true, true, false, false, false, false, false, false, false] rfl rfl (Zbe HT_.out (by kernel_rfl)) (by decide) (fun K hK => ?_)
      refine value_ (w1 := ?_) (v := ?_) (by rfl) rfl ?_ ?_
      rotate_left 2
      ·go_simp
       constructor
       ·rfl
       ·rfl
      refine hK.out _ _ ⟨(Zbo (Zab a.out _) 0).trans rfl, (Zbo (Zab a.out _) 1).trans rfl, (Zbo (Zab a.out _) 2).trans rfl, (Zbo (Zab a.out _) 3).trans rfl, (World.cell?_alloc_lt _ _ _ (World.block_lt_of_cell? _ _ (hHeld.2.2.2.2))).trans (hHeld.2.2.2.2)⟩ (fun hHeld => ?_)
      clear hK K
      refine putS 80 ?_
      refine one_ (i := 4) (N := some 81) #[true, true, true, true, true, true, true, true, true, true, true, true, false, false, false, false, false, false, false] rfl rfl (Zbe HT_.out (by kernel_rfl)) (by decide) (fun K hK => ?_)
      refine xL (Kd.slice 2 (Kd.int .i64)) (w0 := w) w.heap.size (by rfl) (.tmp 78) (.tmp 80) 37 22 (.slice none 0 0) 24 rfl Tryd.underlying37 info22 rfl (by decide) (by omega) x I O [.slice bM O.length bN] (fun k_ => some k_ ≠ (.slice (some ae) q.length a8 : Value).ownBlock) (fun k_ => some k_ = (.slice bM O.length bN : Value).ownBlock) rfl rfl ?aP (fun k_ hk_ => ((zB (ok' := fun k_ => ((fun k_ => some k_ ≠ (.slice (some ae) q.length a8 : Value).ownBlock)) k_ ∧ some k_ ≠ (x : Value).ownBlock) (yG (s.out) (yH d.out) (by decide)) (fun k_ hk => ⟨hk.1, hk.2⟩))).1 k_ hk_.symm) ?aF ?aO ?aB ?aS ?aL ?_
      (case aP => exact Kd.M_row (zB (xC rfl (zB (ok' := fun k_ => ((fun k_ => some k_ ≠ (.slice (some ae) q.length a8 : Value).ownBlock)) k_ ∧ some k_ ≠ (x : Value).ownBlock) (yG (s.out) (yH d.out) (by decide)) (fun k_ hk => ⟨hk.1, hk.2⟩))) (fun _ h_ => h_)))
      (case aB => exact (bW))
      (case aF => exact (fun k_ hk => zT (zI (rP l.out)) k_ hk))
      (case aO => exact (by (with_reducible repeat (first | apply zL | apply zM | apply zH)); exact zG d.out (fun k_ hk => ⟨hk.1, fun e_ => hk.2 e_⟩)))
      (case aS => exact (Zaj (bW)))
      (case aL => have := bq.out; omega)
      intro cu em ho hb hg hat
      (first | have ac := Zc3 hg (hHeld.2.2.2.2) (by first | (rw [Zbb]; exact (fun e_ => (((Kd.S_R d.out).1 _ e_.symm).1) rfl)) | (show some (Addr.add _ _).block ≠ _; rw [Zbb]; exact (fun e_ => (((Kd.S_R d.out).1 _ e_.symm).1) rfl)) | exact (fun e_ => (((Kd.S_R d.out).1 _ e_.symm).1) rfl)) | have ac := Zc3 hg (cell_unalloc (hHeld.2.2.2.2) (by first | (rw [Zbb]; exact zI l.out _ rfl) | (show (Addr.add _ _).block < _; rw [Zbb]; exact zI l.out _ rfl) | exact zI l.out _ rfl)) (by first | (rw [Zbb]; exact (fun e_ => (((Kd.S_R d.out).1 _ e_.symm).1) rfl)) | (show some (Addr.add _ _).block ≠ _; rw [Zbb]; exact (fun e_ => (((Kd.S_R d.out).1 _ e_.symm).1) rfl)) | exact (fun e_ => (((Kd.S_R d.out).1 _ e_.symm).1) rfl)))
      rw [← aV.out] at ho
      replace l := mA (yB (rP l.out) (yH (sP d.out)) (by decide) hg)
      replace c := mA (yB (rP c.out) (yH (sP d.out)) (by decide) hg)
      replace j := mA (Zah (g := D) (o := .cells #[.int .i64 B, .int .i64 z, .slice none 0 0, .slice none 0 0] 77 (0, 0)) (bP j.out) hg (yN d.out j.out (by decide)))
      replace m := mA (Zah (g := T) (o := mobj (Value.int .i64) (Value.int .i64) r) (bP m.out) hg (Kd.S_nem d.out m.out))
      replace a := mA (Zah (g := u) (o := .cells #[.int .i64 a0, .int .i64 0, A, x] 77 (0, 0)) (bP a.out) hg (yN d.out a.out (by decide)))
      replace HB := mA (hb)
      have ab := mA (ho)
      clear d s ho hb hg hat
      refine hK.out _ _ ⟨bc a 0, bc a 1, bc a 2, bc a 3, ac⟩ (fun hHeld => ?_)
      clear hK K
      refine putS 81 ?_
      refine Zas (i := 15) (N := some 92) (Zap HT_.out (by kernel_rfl)) ?_
      refine one_ (i := 12) (N := some 89) #[true, true, true, true, true, true, true, true, true, true, true, true, true, false, false, true, false, false, false] rfl rfl (Zbe HT_.out (by kernel_rfl)) (by decide) (fun K hK => ?_)
      refine goesFR_ a4.enters #[.int .i64 (rd q y)] (by rfl) rfl rfl rfl (by (try simp only [List.map_toArray, List.map_cons, List.map_nil]); first | done | rfl | (simp only [List.length_drop, List.length_take]; rfl)) ?_
      with_reducible refine (Zc7.calls k2 a4 (rd q y) aq _ cd.out (Zc7.okW bG.out)).mono ?_
      rintro e en ⟨rfl, hb⟩
      have ac := (hb.cell (World.block_lt_of_cell? _ _ (hHeld.2.2.2.2))).trans (hHeld.2.2.2.2)
      refine ⟨_, rfl, ?_⟩
      replace l := mA (zK (rP l.out) hb)
      replace c := mA (zK (rP c.out) hb)
      replace ab := mA (zW (sP ab.out) hb)
      replace j := mA (blkB j.out hb)
      replace m := mA (blkB m.out hb)
      replace a := mA (blkB a.out hb)
      replace HB := mA (Zaf (bW) hb)
      (try clear hb)
      (try clear hb2)
      (try clear hk)
      (try clear hi)
      refine hK.out _ _ ⟨bc a 0, bc a 1, bc a 2, bc a 3, ac⟩ (fun hHeld => ?_)
      clear hK K
      refine putS 89 ?_
      refine one_ (i := 13) (N := some 90) #[true, true, true, true, true, true, true, true, true, true, true, true, true, true, false, true, false, false, false] rfl rfl (Zbe HT_.out (by kernel_rfl)) (by decide) (fun K hK => ?_)
      refine value_ (w1 := ?_) (v := ?_) (by rfl) rfl ?_ ?_
      rotate_left 2
      ·go_simp
       constructor
       ·rfl
       ·rfl
      refine hK.out _ _ ⟨(Zbo (Zab a.out _) 0).trans rfl, (Zbo (Zab a.out _) 1).trans rfl, (Zbo (Zab a.out _) 2).trans rfl, (Zbo (Zab a.out _) 3).trans rfl, (World.cell?_alloc_lt _ _ _ (World.block_lt_of_cell? _ _ (hHeld.2.2.2.2))).trans (hHeld.2.2.2.2)⟩ (fun hHeld => ?_)
      clear hK K
      refine putS 90 ?_
      refine one_ (i := 14) (N := some 91) #[true, true, true, true, true, true, true, true, true, true, true, true, true, true, true, true, false, false, false] rfl rfl (Zbe HT_.out (by kernel_rfl)) (by decide) (fun K hK => ?_)
      refine xG Kd.bool (w0 := w) w.heap.size (by rfl) (.tmp 83) (.tmp 90) 64 4 (.bool false) 1 rfl Tryd.underlying64 info4 rfl (by decide) (by omega) A G aq [.bool aq] (fun _ => True) (fun _ => False) rfl rfl ?aP (fun _ hk => hk.elim) ?aF ?aO ?aB ?aS ?aL ?_
      (case aP => exact rfl)
      (case aB => exact (bW))
      (case aF => exact (fun _ _ => trivial))
      (case aO => exact (rP c.out))
      (case aS => exact (Zaj (bW)))
      (case aL => have := bs.out; omega)
      intro cv w64 ho hb hg hat
      (first | have ac := Zc3 hg (hHeld.2.2.2.2) (by first | (rw [Zbb]; exact (fun e_ => ((yG c.out (zY l.out) (by decide)).1 _ e_.symm).2 rfl)) | (show some (Addr.add _ _).block ≠ _; rw [Zbb]; exact (fun e_ => ((yG c.out (zY l.out) (by decide)).1 _ e_.symm).2 rfl)) | exact (fun e_ => ((yG c.out (zY l.out) (by decide)).1 _ e_.symm).2 rfl)) | have ac := Zc3 hg (cell_unalloc (hHeld.2.2.2.2) (by first | (rw [Zbb]; exact zI l.out _ rfl) | (show (Addr.add _ _).block < _; rw [Zbb]; exact zI l.out _ rfl) | exact zI l.out _ rfl)) (by first | (rw [Zbb]; exact (fun e_ => ((yG c.out (zY l.out) (by decide)).1 _ e_.symm).2 rfl)) | (show some (Addr.add _ _).block ≠ _; rw [Zbb]; exact (fun e_ => ((yG c.out (zY l.out) (by decide)).1 _ e_.symm).2 rfl)) | exact (fun e_ => ((yG c.out (zY l.out) (by decide)).1 _ e_.symm).2 rfl)))
      rw [← aW.out] at ho
      replace l := mA (yB (rP l.out) (zY (rP c.out)) (by decide) hg)
      replace j := mA (Zah (g := D) (o := .cells #[.int .i64 B, .int .i64 z, .slice none 0 0, .slice none 0 0] 77 (0, 0)) (bP j.out) hg (zN c.out j.out (by decide)))
      replace m := mA (Zah (g := T) (o := mobj (Value.int .i64) (Value.int .i64) r) (bP m.out) hg (Kd.R_nem c.out m.out))
      replace a := mA (Zah (g := u) (o := .cells #[.int .i64 a0, .int .i64 0, A, x] 77 (0, 0)) (bP a.out) hg (zN c.out a.out (by decide)))
      replace ab := mA (Kd.S_over' (sP ab.out) (zY (rP c.out)) (by decide) hg)
      replace HB := mA (hb)
      have aA := mA (ho)
      clear c ho hb hg hat
      obtain ⟨aE, aG, bQ⟩ := yE ab.out
      (first | subst bQ | (injection bQ with X ah Y; have ai := X.symm; have aj := Y.symm; clear X ah Y; subst ai; subst aj))
      obtain ⟨aX, aY, bR⟩ := zP aA.out
      (first | subst bR | (injection bR with X ah Y; have ai := X.symm; have aj := Y.symm; clear X ah Y; subst ai; subst aj))
      refine hK.out _ _ ⟨bc a 0, bc a 1, bc a 2, bc a 3, ac⟩ (fun hHeld => ?_)
      clear hK K
      refine putS 91 ?_
      refine last_ (i := 16) (N := none) #[true, true, true, true, true, true, true, true, true, true, true, true, true, true, true, true, true, false, false] rfl rfl (Zbe HT_.out (by kernel_rfl)) (by decide) (fun K hK => ?_)
      have d2 : w64.cell? ⟨u, 3, none⟩ = some (x) := bc a 3
      have dE := Zae a.out 3
      have cM := E.out
      have cN := J.out
      have cO := U.out
      have cQ := W.out
      refine skip_ (w1 := ?_) (by rfl) rfl ?_ ?_
      rotate_left
      ·go_simp
       rfl
      refine hK.out _ _ ?_
      clear hK K
      refine Zas (i := 17) (N := some 93) (Zap HT_.out (by kernel_rfl)) ?_
      refine last_ (i := 18) (N := none) #[true, true, true, true, true, true, true, true, true, true, true, true, true, true, true, true, true, true, true] rfl rfl (Zbe HT_.out (by kernel_rfl)) (by decide) (fun K hK => ?_)
      have d3 : w64.cell? ⟨u, 2, none⟩ = some (A) := bc a 2
      have dG := Zae a.out 2
      have cR := E.out
      have cS := J.out
      have cT := U.out
      have cU := W.out
      refine skip_ (w1 := ?_) (by rfl) rfl ?_ ?_
      rotate_left
      ·go_simp
       rfl
      refine hK.out _ _ ?_
      clear hK K
      refine done_ (Zcs HT_.out (by kernel_rfl)) ?_
      try go_wp2
      go_roundg k2
      case measure => have := ax.out; have := ay.out; omega
      case rel => exact ⟨(q), (wrap64 (y + 1)), (B), (z), (r), (aD), (av), (.slice aX aD.length aY), (.slice aE av.length aG), (eW), H', ⟨by have := ax.out; have := ay.out; omega⟩, ⟨by (with_reducible repeat (first | apply zC | apply zD | apply zA)); exact zB (zF (p := ⟨u, 2, none⟩) (zF (p := ⟨u, 3, none⟩) (zV l.out a.out (by decide)) (fun _ hk => hk.2) (.slice aE av.length aG)) (fun _ hk => hk.2) (.slice aX aD.length aY)) (fun _ hk => trivial)⟩, ⟨by (with_reducible repeat (first | apply zC | apply zD | apply zA)); exact zB (zF (p := ⟨u, 2, none⟩) (zF (p := ⟨u, 3, none⟩) (zV aA.out a.out (by decide)) (fun _ hk => hk.2) (.slice aE av.length aG)) (fun _ hk => hk.2) (.slice aX aD.length aY)) (fun _ hk => trivial)⟩, ⟨by (with_reducible repeat (first | apply zL | apply zM | apply zH)); exact zG (zE (p := ⟨u, 2, none⟩) (zE (p := ⟨u, 3, none⟩) (zX ab.out a.out (by decide)) (fun _ hk => hk.2) (.slice aE av.length aG)) (fun _ hk => hk.2) (.slice aX aD.length aY)) (fun _ hk => hk.1)⟩, ⟨by (with_reducible repeat (first | refine Zad ?_ _ | refine Zaa ?_ | refine Zab ?_ _)); refine Zbt ?_ E.out _; (with_reducible repeat (first | refine Zad ?_ _ | refine Zaa ?_ | refine Zab ?_ _)); refine Zbt ?_ E.out _; exact bP j.out⟩, ⟨by (with_reducible repeat (first | refine Zad ?_ _ | refine Zaa ?_ | refine Zab ?_ _)); refine Zbt ?_ J.out _; (with_reducible repeat (first | refine Zad ?_ _ | refine Zaa ?_ | refine Zab ?_ _)); refine Zbt ?_ J.out _; exact bP m.out⟩, ⟨by (with_reducible repeat (first | refine Zad ?_ _ | refine Zaa ?_ | refine Zab ?_ _)); refine Zau (cs := #[.int .i64 a0, .int .i64 0, A, .slice aE av.length aG]) ?_ 2 _ rfl; (with_reducible repeat (first | refine Zad ?_ _ | refine Zaa ?_ | refine Zab ?_ _)); refine Zau (cs := #[.int .i64 a0, .int .i64 0, A, x]) ?_ 3 _ rfl; exact bP a.out⟩, ⟨bW⟩⟩
     rw [if_pos aM] at H
     have b9 : decide (a2 < (q.length : Int)) = true := dT aM
     clear aM
     simp only [Option.some.injEq, Prod.mk.injEq] at H
     obtain ⟨rfl, rfl, rfl, rfl, rfl⟩ := H
     try go_wp2
     replace l := mA (zA l.out)
     replace s := mA (zA s.out)
     replace c := mA (zA c.out)
     replace d := mA (zH d.out)
     replace j := mA (Zaa j.out)
     replace m := mA (Zaa m.out)
     replace a := mA (Zaa a.out)
     replace HB := mA (Za1 HB.out)
     obtain ⟨d4, ba, bS⟩ := zP l.out
     (first | subst bS | (injection bS with X ah Y; have ai := X.symm; have aj := Y.symm; clear X ah Y; subst ai; subst aj))
     have ar : 0 ≤ (y : Int) := ofD
     have au : y < (q.length : Int) := ofD
     obtain ⟨ae, a9, al⟩ := zO (zJ l.out).2.2 y ar au
     cases a9
     replace ar := eq_true ar
     replace au := eq_true au
     obtain ⟨bT, bU, bV⟩ := zP s.out
     (first | subst bV | (injection bV with X ah Y; have ai := X.symm; have aj := Y.symm; clear X ah Y; subst ai; subst aj))
     refine Zck (n := 19) (S := fun w' => w'.cell? ⟨u, 0, none⟩ = some (.int .i64 a0) ∧ w'.cell? ⟨u, 1, none⟩ = some (.int .i64 0) ∧ w'.cell? ⟨u, 2, none⟩ = some (A) ∧ w'.cell? ⟨u, 3, none⟩ = some (x) ∧ w'.cell? (ae.add (y).toNat) = some (.int .i64 (rd q y))) (ds := [16, 18]) #[false, false, false, false, false, false, false, false, false, false, false, false, false, false, false, false, false, false, false] (by kernel_rfl) rfl rfl ⟨bc a 0, bc a 1, bc a 2, bc a 3, al⟩ (fun hHeld => ?_); refine Zb5 Zar.tab20 Zar.bits20 (fun HT_ HW_ => ?_)
     generalize wr.drew = w46 at l s c d j m a HB al hHeld ⊢
     refine Zas (i := 0) (N := some 77) (Zap HT_.out (by kernel_rfl)) ?_
     refine Zas (i := 2) (N := some 79) (Zap HT_.out (by kernel_rfl)) ?_
     refine Zas (i := 5) (N := some 82) (Zap HT_.out (by kernel_rfl)) ?_
     refine Zas (i := 7) (N := some 84) (Zap HT_.out (by kernel_rfl)) ?_
     refine Zas (i := 8) (N := some 85) (Zap HT_.out (by kernel_rfl)) ?_
     refine Zas (i := 9) (N := some 86) (Zap HT_.out (by kernel_rfl)) ?_
     refine Zas (i := 10) (N := some 87) (Zap HT_.out (by kernel_rfl)) ?_
     refine Zbg (i := 1) (N := some 78) (Za0 HT_.out HW_.out (by kernel_rfl)) hHeld ?_
     refine Zbg (i := 6) (N := some 83) (Za0 HT_.out HW_.out (by kernel_rfl)) hHeld ?_
     refine Zbg (i := 11) (N := some 88) (Za0 HT_.out HW_.out (by kernel_rfl)) hHeld ?_
     refine one_ (i := 3) (N := some 80) #[true, true, true, true, false, true, true, true, true, true, true, true, false, false, false, false, false, false, false] rfl rfl (Zbe HT_.out (by kernel_rfl)) (by decide) (fun K hK => ?_)
     refine value_ (w1 := ?_) (v := ?_) (by rfl) rfl ?_ ?_
     rotate_left 2
     ·go_simp
      constructor
      ·rfl
      ·rfl
     refine hK.out _ _ ⟨(Zbo (Zab a.out _) 0).trans rfl, (Zbo (Zab a.out _) 1).trans rfl, (Zbo (Zab a.out _) 2).trans rfl, (Zbo (Zab a.out _) 3).trans rfl, (World.cell?_alloc_lt _ _ _ (World.block_lt_of_cell? _ _ (hHeld.2.2.2.2))).trans (hHeld.2.2.2.2)⟩ (fun hHeld => ?_)
     clear hK K
     refine putS 80 ?_
     refine one_ (i := 4) (N := some 81) #[true, true, true, true, true, true, true, true, true, true, true, true, false, false, false, false, false, false, false] rfl rfl (Zbe HT_.out (by kernel_rfl)) (by decide) (fun K hK => ?_)
     refine xL (Kd.slice 2 (Kd.int .i64)) (w0 := w) w.heap.size (by rfl) (.tmp 78) (.tmp 80) 37 22 (.slice none 0 0) 24 rfl Tryd.underlying37 info22 rfl (by decide) (by omega) x I O [.slice bT O.length bU] (fun k_ => some k_ ≠ (.slice (some ae) q.length ba : Value).ownBlock) (fun k_ => some k_ = (.slice bT O.length bU : Value).ownBlock) rfl rfl ?aP (fun k_ hk_ => ((zB (ok' := fun k_ => ((fun k_ => some k_ ≠ (.slice (some ae) q.length ba : Value).ownBlock)) k_ ∧ some k_ ≠ (x : Value).ownBlock) (yG (s.out) (yH d.out) (by decide)) (fun k_ hk => ⟨hk.1, hk.2⟩))).1 k_ hk_.symm) ?aF ?aO ?aB ?aS ?aL ?_
     (case aP => exact Kd.M_row (zB (xC rfl (zB (ok' := fun k_ => ((fun k_ => some k_ ≠ (.slice (some ae) q.length ba : Value).ownBlock)) k_ ∧ some k_ ≠ (x : Value).ownBlock) (yG (s.out) (yH d.out) (by decide)) (fun k_ hk => ⟨hk.1, hk.2⟩))) (fun _ h_ => h_)))
     (case aB => exact (bW))
     (case aF => exact (fun k_ hk => zT (zI (rP l.out)) k_ hk))
     (case aO => exact (by (with_reducible repeat (first | apply zL | apply zM | apply zH)); exact zG d.out (fun k_ hk => ⟨hk.1, fun e_ => hk.2 e_⟩)))
     (case aS => exact (Zaj (bW)))
     (case aL => have := bq.out; omega)
     intro cu eo ho hb hg hat
     (first | have ac := Zc3 hg (hHeld.2.2.2.2) (by first | (rw [Zbb]; exact (fun e_ => (((Kd.S_R d.out).1 _ e_.symm).1) rfl)) | (show some (Addr.add _ _).block ≠ _; rw [Zbb]; exact (fun e_ => (((Kd.S_R d.out).1 _ e_.symm).1) rfl)) | exact (fun e_ => (((Kd.S_R d.out).1 _ e_.symm).1) rfl)) | have ac := Zc3 hg (cell_unalloc (hHeld.2.2.2.2) (by first | (rw [Zbb]; exact zI l.out _ rfl) | (show (Addr.add _ _).block < _; rw [Zbb]; exact zI l.out _ rfl) | exact zI l.out _ rfl)) (by first | (rw [Zbb]; exact (fun e_ => (((Kd.S_R d.out).1 _ e_.symm).1) rfl)) | (show some (Addr.add _ _).block ≠ _; rw [Zbb]; exact (fun e_ => (((Kd.S_R d.out).1 _ e_.symm).1) rfl)) | exact (fun e_ => (((Kd.S_R d.out).1 _ e_.symm).1) rfl)))
     rw [← aV.out] at ho
     replace l := mA (yB (rP l.out) (yH (sP d.out)) (by decide) hg)
     replace c := mA (yB (rP c.out) (yH (sP d.out)) (by decide) hg)
     replace j := mA (Zah (g := D) (o := .cells #[.int .i64 B, .int .i64 z, .slice none 0 0, .slice none 0 0] 77 (0, 0)) (bP j.out) hg (yN d.out j.out (by decide)))
     replace m := mA (Zah (g := T) (o := mobj (Value.int .i64) (Value.int .i64) r) (bP m.out) hg (Kd.S_nem d.out m.out))
     replace a := mA (Zah (g := u) (o := .cells #[.int .i64 a0, .int .i64 0, A, x] 77 (0, 0)) (bP a.out) hg (yN d.out a.out (by decide)))
     replace HB := mA (hb)
     have ab := mA (ho)
     clear d s ho hb hg hat
     refine hK.out _ _ ⟨bc a 0, bc a 1, bc a 2, bc a 3, ac⟩ (fun hHeld => ?_)
     clear hK K
     refine putS 81 ?_
     refine Zas (i := 15) (N := some 92) (Zap HT_.out (by kernel_rfl)) ?_
     refine one_ (i := 12) (N := some 89) #[true, true, true, true, true, true, true, true, true, true, true, true, true, false, false, true, false, false, false] rfl rfl (Zbe HT_.out (by kernel_rfl)) (by decide) (fun K hK => ?_)
     refine goesFR_ a4.enters #[.int .i64 (rd q y)] (by rfl) rfl rfl rfl (by (try simp only [List.map_toArray, List.map_cons, List.map_nil]); first | done | rfl | (simp only [List.length_drop, List.length_take]; rfl)) ?_
     with_reducible refine (Zc7.calls k2 a4 (rd q y) aq _ cd.out (Zc7.okW bG.out)).mono ?_
     rintro e ep ⟨rfl, hb⟩
     have ac := (hb.cell (World.block_lt_of_cell? _ _ (hHeld.2.2.2.2))).trans (hHeld.2.2.2.2)
     refine ⟨_, rfl, ?_⟩
     replace l := mA (zK (rP l.out) hb)
     replace c := mA (zK (rP c.out) hb)
     replace ab := mA (zW (sP ab.out) hb)
     replace j := mA (blkB j.out hb)
     replace m := mA (blkB m.out hb)
     replace a := mA (blkB a.out hb)
     replace HB := mA (Zaf (bW) hb)
     (try clear hb)
     (try clear hb2)
     (try clear hk)
     (try clear hi)
     refine hK.out _ _ ⟨bc a 0, bc a 1, bc a 2, bc a 3, ac⟩ (fun hHeld => ?_)
     clear hK K
     refine putS 89 ?_
     refine one_ (i := 13) (N := some 90) #[true, true, true, true, true, true, true, true, true, true, true, true, true, true, false, true, false, false, false] rfl rfl (Zbe HT_.out (by kernel_rfl)) (by decide) (fun K hK => ?_)
     refine value_ (w1 := ?_) (v := ?_) (by rfl) rfl ?_ ?_
     rotate_left 2
     ·go_simp
      constructor
      ·rfl
      ·rfl
     refine hK.out _ _ ⟨(Zbo (Zab a.out _) 0).trans rfl, (Zbo (Zab a.out _) 1).trans rfl, (Zbo (Zab a.out _) 2).trans rfl, (Zbo (Zab a.out _) 3).trans rfl, (World.cell?_alloc_lt _ _ _ (World.block_lt_of_cell? _ _ (hHeld.2.2.2.2))).trans (hHeld.2.2.2.2)⟩ (fun hHeld => ?_)
     clear hK K
     refine putS 90 ?_
     refine one_ (i := 14) (N := some 91) #[true, true, true, true, true, true, true, true, true, true, true, true, true, true, true, true, false, false, false] rfl rfl (Zbe HT_.out (by kernel_rfl)) (by decide) (fun K hK => ?_)
     refine xG Kd.bool (w0 := w) w.heap.size (by rfl) (.tmp 83) (.tmp 90) 64 4 (.bool false) 1 rfl Tryd.underlying64 info4 rfl (by decide) (by omega) A G aq [.bool aq] (fun _ => True) (fun _ => False) rfl rfl ?aP (fun _ hk => hk.elim) ?aF ?aO ?aB ?aS ?aL ?_
     (case aP => exact rfl)
     (case aB => exact (bW))
     (case aF => exact (fun _ _ => trivial))
     (case aO => exact (rP c.out))
     (case aS => exact (Zaj (bW)))
     (case aL => have := bs.out; omega)
     intro cv aN ho hb hg hat
     (first | have ac := Zc3 hg (hHeld.2.2.2.2) (by first | (rw [Zbb]; exact (fun e_ => ((yG c.out (zY l.out) (by decide)).1 _ e_.symm).2 rfl)) | (show some (Addr.add _ _).block ≠ _; rw [Zbb]; exact (fun e_ => ((yG c.out (zY l.out) (by decide)).1 _ e_.symm).2 rfl)) | exact (fun e_ => ((yG c.out (zY l.out) (by decide)).1 _ e_.symm).2 rfl)) | have ac := Zc3 hg (cell_unalloc (hHeld.2.2.2.2) (by first | (rw [Zbb]; exact zI l.out _ rfl) | (show (Addr.add _ _).block < _; rw [Zbb]; exact zI l.out _ rfl) | exact zI l.out _ rfl)) (by first | (rw [Zbb]; exact (fun e_ => ((yG c.out (zY l.out) (by decide)).1 _ e_.symm).2 rfl)) | (show some (Addr.add _ _).block ≠ _; rw [Zbb]; exact (fun e_ => ((yG c.out (zY l.out) (by decide)).1 _ e_.symm).2 rfl)) | exact (fun e_ => ((yG c.out (zY l.out) (by decide)).1 _ e_.symm).2 rfl)))
     rw [← aW.out] at ho
     replace l := mA (yB (rP l.out) (zY (rP c.out)) (by decide) hg)
     replace j := mA (Zah (g := D) (o := .cells #[.int .i64 B, .int .i64 z, .slice none 0 0, .slice none 0 0] 77 (0, 0)) (bP j.out) hg (zN c.out j.out (by decide)))
     replace m := mA (Zah (g := T) (o := mobj (Value.int .i64) (Value.int .i64) r) (bP m.out) hg (Kd.R_nem c.out m.out))
     replace a := mA (Zah (g := u) (o := .cells #[.int .i64 a0, .int .i64 0, A, x] 77 (0, 0)) (bP a.out) hg (zN c.out a.out (by decide)))
     replace ab := mA (Kd.S_over' (sP ab.out) (zY (rP c.out)) (by decide) hg)
     replace HB := mA (hb)
     have aA := mA (ho)
     clear c ho hb hg hat
     obtain ⟨d5, d6, bX⟩ := yE ab.out
     (first | subst bX | (injection bX with X ah Y; have ai := X.symm; have aj := Y.symm; clear X ah Y; subst ai; subst aj))
     obtain ⟨d7, d8, bY⟩ := zP aA.out
     (first | subst bY | (injection bY with X ah Y; have ai := X.symm; have aj := Y.symm; clear X ah Y; subst ai; subst aj))
     refine hK.out _ _ ⟨bc a 0, bc a 1, bc a 2, bc a 3, ac⟩ (fun hHeld => ?_)
     clear hK K
     refine putS 91 ?_
     refine last_ (i := 16) (N := none) #[true, true, true, true, true, true, true, true, true, true, true, true, true, true, true, true, true, false, false] rfl rfl (Zbe HT_.out (by kernel_rfl)) (by decide) (fun K hK => ?_)
     have d9 : aN.cell? ⟨u, 3, none⟩ = some (x) := bc a 3
     have dH := Zae a.out 3
     have cV := E.out
     have cW := J.out
     have cX := U.out
     have cY := W.out
     refine skip_ (w1 := ?_) (by rfl) rfl ?_ ?_
     rotate_left
     ·go_simp
      rfl
     refine hK.out _ _ ?_
     clear hK K
     refine Zas (i := 17) (N := some 93) (Zap HT_.out (by kernel_rfl)) ?_
     refine last_ (i := 18) (N := none) #[true, true, true, true, true, true, true, true, true, true, true, true, true, true, true, true, true, true, true] rfl rfl (Zbe HT_.out (by kernel_rfl)) (by decide) (fun K hK => ?_)
     have ea : aN.cell? ⟨u, 2, none⟩ = some (A) := bc a 2
     have dI := Zae a.out 2
     have cZ := E.out
     have c0 := J.out
     have c1 := U.out
     have da := W.out
     refine skip_ (w1 := ?_) (by rfl) rfl ?_ ?_
     rotate_left
     ·go_simp
      rfl
     refine hK.out _ _ ?_
     clear hK K
     refine done_ (Zcs HT_.out (by kernel_rfl)) ?_
     have dJ := ak.out
     have dK := aw.out
     have dL := E.out
     have dM := U.out
     have db : aN.cell? ⟨D, 0, none⟩ = some (.int .i64 B) := bc j 0
     have dc : aN.cell? ⟨D, 1, none⟩ = some (.int .i64 z) := bc j 1
     have dd : aN.cell? ⟨D, 2, none⟩ = some (.slice none 0 0) := bc j 2
     have de : aN.cell? ⟨D, 3, none⟩ = some (.slice none 0 0) := bc j 3
     have df := Zae j.out 0
     have dg := Zae j.out 1
     have dh := Zae j.out 2
     have di := Zae j.out 3
     try go_wp2
     refine bodyPost_ret (Zdh rfl _ _ D 77 #[.int .i64 0, .int .i64 0, .slice none 0 0, .slice none 0 0] (0, 0) _ rfl (by (with_reducible repeat (first | refine Zad ?_ _ | refine Zaa ?_ | refine Zab ?_ _)); refine Zau (cs := #[.int .i64 0, .int .i64 0, .slice none 0 0, .slice none 0 0]) ?_ 3 _ rfl; (with_reducible repeat (first | refine Zad ?_ _ | refine Zaa ?_ | refine Zab ?_ _)); refine Zau (cs := #[.int .i64 0, .int .i64 0, .slice none 0 0, .slice none 0 0]) ?_ 2 _ rfl; (with_reducible repeat (first | refine Zad ?_ _ | refine Zaa ?_ | refine Zab ?_ _)); refine Zau (cs := #[.int .i64 0, .int .i64 z, .slice none 0 0, .slice none 0 0]) ?_ 1 _ rfl; (with_reducible repeat (first | refine Zad ?_ _ | refine Zaa ?_ | refine Zab ?_ _)); refine Zau (cs := #[.int .i64 B, .int .i64 z, .slice none 0 0, .slice none 0 0]) ?_ 0 _ rfl; (with_reducible repeat (first | refine Zad ?_ _ | refine Zaa ?_ | refine Zab ?_ _)); refine Zbt ?_ E.out _; (with_reducible repeat (first | refine Zad ?_ _ | refine Zaa ?_ | refine Zab ?_ _)); refine Zbt ?_ E.out _; exact bP j.out) Tryd.underlying77 rfl (by kernel_rfl)) rfl ?_
     exact ⟨_, _, eW, by first | exact yR _ _ _ _ _ | exact yW _ _ _ _ _ | exact yX _ _ _ _ _ | exact yT _ _ _ _ _ | exact yU _ _ _ _ _, by first | exact yU _ _ _ _ _ | exact yW _ _ _ _ _ | exact yX _ _ _ _ _ | exact yT _ _ _ _ _ | exact yR _ _ _ _ _, bW⟩
end Go.Proofs.YtjdkedmdeajmgaaDoor.P
end M0
