import Derived.Test.YtgindgodfcfgkaaCFnExactMinimalAutomaton2
set_option maxHeartbeats 8000000
set_option maxRecDepth 100000
section M0
namespace Go.Proofs.Ytgindgodfcfgkaa.P
open Go.RowKit Go.Proofs.Ytgindgodfcfgkaa.Sh Go.Proofs.YtgindgodfcfgkaaW.PrintWords Go.Proofs.YtgindgodfcfgkaaW.PrintLast Go.Proofs.YtgindgodfcfgkaaW.PrintMore
open Kd
attribute [local go_sem] Zcf Zcc Zcn Zcp Zb5 Zb3 Zcd Zcb   -- for this text's walks alone
set_option linter.unusedVariables false
set_option linter.unusedSimpArgs false
def impl_has.f (a0 : Int) (a1 : Int) : Option (Bool) := if 0 ≤ a1 then (some ((Go.bits .and .i64 (shr .i64 a0 a1) 1) == 1)) else (none)
theorem impl_has.calls (a0 : Int) (a1 : Int) (r : Bool) (w : World) (h : impl_has.f a0 a1 = some r) :
  Calls Try.prog 89 #[.int .i64 a0, .int .i64 a1] w fun e w' => e = .returned (.bool r) ∧ Zas w w' := by
 unfold impl_has.f at h
 have H := h
 clear h
 by_cases c3 : 0 ≤ a1; rotate_left
 ·rw [if_neg c3] at H
  exact absurd H (by simp)
 rw [if_pos c3] at H
 have g := eq_true c3
 have i := dT c3
 clear c3
 obtain ⟨b, a⟩ : ∃ j_ : Int, (shr .i64 a0 a1) = j_ := ⟨_, rfl⟩
 replace H : (some ((Go.bits .and .i64 (b) 1) == 1)) = some r := by first | (rw [a] at H; exact H) | (simp only [a] at H ⊢; exact H)
 have c : (a0 / 2 ^ min a1.toNat 64) = b := a
 have d : a1 ≤ 64 → (a0 / 2 ^ a1.toNat) = b := shr_small a
 obtain rfl := oI H
 go_enter Try.func89, Try.ntmps89
 go_wp2
 go_ret
 exact ⟨by first | rfl | (simp; done) | (simp only [← a] <;> (first | rfl | simp)) | (simp [*]; done), by repeat (first | exact Zas.refl _ | apply Zas.step)⟩
def Za4.l0 : Nat → Int → Int → Int → Int → Int → List (List Int) → Int → Int → List Bool → List (List Int) → Option (Int × Int × List Bool × (List (List Int)))
 | 0, _, _, _, _, _, _, _, _, _, _ => none
 | k + 1, l, j, g, h, b, i, c, d, a, e => if j < l then ((impl_has.f b j).bind fun m => (if a.length < 140737488355328 then (Za4.l0 k l (wrap64 (j + 1)) g h b i c d (a ++ [m]) e) else (none))) else (some (c, d, a, e))
def Za4.f (k : Nat) (b : Int) (c : Int) (d : Int) (a : List (List Int)) : Option (Int × Int × List Bool × (List (List Int))) := Za4.l0 k (a.length : Int) 0 b c d a b c ([] : List Bool) a
def Za4.T5 : Bool × List (List Nat × List Nat) := (true, [([], []), ([0], [0]), ([], []), ([2], [2]), ([], []), ([3, 4], [3, 4]), ([5], [5]), ([1, 6, 5], [1, 6]), ([0, 1, 2, 3, 4, 5, 6, 7], []), ([8, 7, 7, 0, 1, 2, 3, 4, 5, 6, 7], [7, 8])])
def Za4.B5 : List Nat := [0, 1, 0, 4, 0, 28, 60, 127, 255, 511]
theorem Za4.tab5 : rtab .any (opsOf Try.f43 5) = Za4.T5 := by kernel_rfl
theorem Za4.bits5 : Zcz Za4.T5.2 Za4.B5 = true := by kernel_rfl
theorem Za4.calls (k : Nat) (m : Int) (s : Int) (I : Int) (J : Nat → Prop) (z : Option Addr) (A : Nat) (j : List (List Int)) (r1 : Int) (r2 : Int) (r3 : List Bool) (r4 : List (List Int)) (w : World) (aM : Kd.V (Kd.slice 2 (Kd.int .i64)) 33 w w.heap.size (fun k_ => J k_) (.slice z j.length A) j) (h : Za4.f k m s I j = some (r1, r2, r3, r4)) :
  Calls Try.prog 43 #[.agg #[.int .i64 m, .int .i64 s, .int .i64 I, .slice z j.length A]] w fun e w' => ∃ ao aT : Value, e = .returned (.agg #[.int .i64 r1, .int .i64 r2, ao, aT]) ∧ Kd.R Kd.bool 4 w' w.heap.size (fun k_ => (w.heap.size ≤ k_)) ao r3 ∧ Kd.V (Kd.slice 2 (Kd.int .i64)) 33 w' w.heap.size (fun k_ => (J k_ ∨ w.heap.size ≤ k_) ∧ some k_ ≠ (ao : Value).ownBlock) aT r4 ∧ Below w.heap.size w w' := by
 have bF := Try.underlying26
 have bG := Try.underlying63
 have G := mA (show Kd.V (Kd.slice 2 (Kd.int .i64)) 33 w w.heap.size (fun k_ => (J k_ ∨ w.heap.size ≤ k_)) (.slice z j.length A) j from yQ aM (fun k_ hk => .inl hk))
 have HB := mA (Below.refl w.heap.size w)
 unfold Za4.f at h
 have H := h
 clear h
 have H' := mA H
 clear H
 go_enter Try.func43, Try.ntmps43
 go_wp2_with (first | ((with_reducible refine Zar (N := 1) rfl ?_); refine boxS (N := 1) (cs := #[.int .i64 m, .int .i64 s, .int .i64 I, .slice z j.length A]) (t := 26) ?_; intro E hg w2 hbox hb; replace G := mA (Kd.V_below (Kd.V_elderB (by (with_reducible repeat (first | apply yU | apply yV | apply yS)); exact G.out) E (Nat.le_of_eq hg.symm)) hb); have b := mA (hbox); have bp := geW (w := w) hg; have bq := geW (w := w) hg; replace HB := mA (Zaf (bW) hb); clear hb hbox hg) | ((with_reducible refine Zar (N := 2) rfl ?_); refine boxS (N := 2) (cs := #[.int .i64 0, .int .i64 0, .slice none 0 0, .slice none 0 0]) (t := 63) ?_; intro l hg w3 hbox hb; replace G := mA (Kd.V_below (Kd.V_elderB (by (with_reducible repeat (first | apply yU | apply yV | apply yS)); exact G.out) l (Nat.le_of_eq hg.symm)) hb); have d := mA (hbox); have br := geW (w := w) hg; have bs := geW (w := w) hg; replace HB := mA (Zaf (bW) hb); have P := mA (neB hg b); have T := mA (neC hg b); replace b := mA (blkB b.out hb); clear hb hbox hg; have bH := P.out; have bI := T.out; obtain ⟨ap, aq, ar, au⟩ := Zaz b.out; obtain ⟨av, aw, ax, ay⟩ := frz4 b.out) | ((with_reducible refine Zar (N := 3) rfl ?_); refine boxS (N := 3) (cs := #[.int .i64 0, .int .i64 0, .slice none 0 0, .slice none 0 0]) (t := 63) ?_; intro c hg w6 hbox hb; replace G := mA (Kd.V_below (Kd.V_elderB (by (with_reducible repeat (first | apply yU | apply yV | apply yS)); exact G.out) c (Nat.le_of_eq hg.symm)) hb); have a := mA (hbox); have bu := geW (w := w) hg; have bv := geW (w := w) hg; replace HB := mA (Zaf (bW) hb); have x := mA (neB hg b); have M := mA (neC hg b); replace b := mA (blkB b.out hb); have y := mA (neB hg d); have O := mA (neC hg d); replace d := mA (blkB d.out hb); clear hb hbox hg; have bJ := M.out; have bK := x.out; have bL := O.out; have bM := y.out; obtain ⟨az, aA, aC, aD⟩ := Zaz a.out; obtain ⟨aE, aG, aH, aI⟩ := frz4 a.out; obtain ⟨ag, ah, ai, aj⟩ := Zaz b.out; obtain ⟨ak, al, am, an⟩ := frz4 b.out))
 go_loopg [15] k (fun kq v15 w' => ∃ (L : Int) (q : List Bool) (u : Value), v15 = .int .i64 L ∧ Zad (Za4.l0 kq (j.length : Int) L m s I j m s q j = some (r1, r2, r3, r4)) ∧ Zad (kq ≤ k) ∧ Zad (Kd.V (Kd.slice 2 (Kd.int .i64)) 33 w' w.heap.size (fun k_ => (J k_ ∨ w.heap.size ≤ k_) ∧ some k_ ≠ (u : Value).ownBlock ∧ k_ ≠ E ∧ k_ ≠ l ∧ k_ ≠ c) (.slice z j.length A) j) ∧ Zad (Kd.R Kd.bool 4 w' w.heap.size (fun k_ => (w.heap.size ≤ k_)) u q) ∧ Zad (Kd.V (Kd.slice 2 (Kd.int .i64)) 33 w' w.heap.size (fun k_ => (J k_ ∨ w.heap.size ≤ k_) ∧ some k_ ≠ (u : Value).ownBlock ∧ k_ ≠ E ∧ k_ ≠ l ∧ k_ ≠ c) (.slice z j.length A) j) ∧ Zad (w'.heap[E]? = some (.cells #[.int .i64 m, .int .i64 s, .int .i64 I, (.slice z j.length A)] 26 (0, 0))) ∧ Zad (w'.heap[l]? = some (.cells #[.int .i64 0, .int .i64 0, (.slice none 0 0), (.slice none 0 0)] 63 (0, 0))) ∧ Zad (w'.heap[c]? = some (.cells #[.int .i64 m, .int .i64 s, u, (.slice z j.length A)] 63 (0, 0))) ∧ Zad (Below w.heap.size w w'))
 case atStart => exact ⟨(0), (([] : List Bool)), (.slice none 0 0), (eW), H', ⟨Nat.le_refl _⟩, ⟨by (with_reducible repeat (first | apply yU | apply yV | apply yS)); exact yQ (yR (p := ⟨c, 3, none⟩) (yR (p := ⟨c, 2, none⟩) (yR (p := ⟨c, 1, none⟩) (yR (p := ⟨c, 0, none⟩) (yQ G.out (fun k_ hk => (⟨hk, hk.2⟩ : _ ∧ k_ ≠ c))) (fun _ hk => hk.2) (.int .i64 m)) (fun _ hk => hk.2) (.int .i64 s)) (fun _ hk => hk.2) (.slice none 0 0)) (fun _ hk => hk.2) (.slice z j.length A)) (fun _ hk => ⟨hk.1.1.1.1, ⟨(by simp [Value.ownBlock]), ⟨hk.1.1.1.2, ⟨hk.1.1.2, hk.1.2⟩⟩⟩⟩)⟩, ⟨by first | exact yN _ _ _ _ _ | exact xD _ _ _ _ _ | exact xE _ _ _ _ _ | exact yZ _ _ _ _ _ | exact xA _ _ _ _ _⟩, ⟨by (with_reducible repeat (first | apply yU | apply yV | apply yS)); exact yQ (yR (p := ⟨c, 3, none⟩) (yR (p := ⟨c, 2, none⟩) (yR (p := ⟨c, 1, none⟩) (yR (p := ⟨c, 0, none⟩) (yQ G.out (fun k_ hk => (⟨hk, hk.2⟩ : _ ∧ k_ ≠ c))) (fun _ hk => hk.2) (.int .i64 m)) (fun _ hk => hk.2) (.int .i64 s)) (fun _ hk => hk.2) (.slice none 0 0)) (fun _ hk => hk.2) (.slice z j.length A)) (fun _ hk => ⟨hk.1.1.1.1, ⟨(by simp [Value.ownBlock]), ⟨hk.1.1.1.2, ⟨hk.1.1.2, hk.1.2⟩⟩⟩⟩)⟩, ⟨by (with_reducible repeat (first | refine Zac ?_ _ | refine Zab ?_ | refine Zaa ?_ _)); refine Zal ?_ x.out _; (with_reducible repeat (first | refine Zac ?_ _ | refine Zab ?_ | refine Zaa ?_ _)); refine Zal ?_ x.out _; (with_reducible repeat (first | refine Zac ?_ _ | refine Zab ?_ | refine Zaa ?_ _)); refine Zal ?_ x.out _; (with_reducible repeat (first | refine Zac ?_ _ | refine Zab ?_ | refine Zaa ?_ _)); refine Zal ?_ x.out _; exact bP b.out⟩, ⟨by (with_reducible repeat (first | refine Zac ?_ _ | refine Zab ?_ | refine Zaa ?_ _)); refine Zal ?_ y.out _; (with_reducible repeat (first | refine Zac ?_ _ | refine Zab ?_ | refine Zaa ?_ _)); refine Zal ?_ y.out _; (with_reducible repeat (first | refine Zac ?_ _ | refine Zab ?_ | refine Zaa ?_ _)); refine Zal ?_ y.out _; (with_reducible repeat (first | refine Zac ?_ _ | refine Zab ?_ | refine Zaa ?_ _)); refine Zal ?_ y.out _; exact bP d.out⟩, ⟨by (with_reducible repeat (first | refine Zac ?_ _ | refine Zab ?_ | refine Zaa ?_ _)); refine Zap (cs := #[.int .i64 m, .int .i64 s, .slice none 0 0, .slice none 0 0]) ?_ 3 _ rfl; (with_reducible repeat (first | refine Zac ?_ _ | refine Zab ?_ | refine Zaa ?_ _)); refine Zap (cs := #[.int .i64 m, .int .i64 s, .slice none 0 0, .slice none 0 0]) ?_ 2 _ rfl; (with_reducible repeat (first | refine Zac ?_ _ | refine Zab ?_ | refine Zaa ?_ _)); refine Zap (cs := #[.int .i64 m, .int .i64 0, .slice none 0 0, .slice none 0 0]) ?_ 1 _ rfl; (with_reducible repeat (first | refine Zac ?_ _ | refine Zab ?_ | refine Zaa ?_ _)); refine Zap (cs := #[.int .i64 0, .int .i64 0, .slice none 0 0, .slice none 0 0]) ?_ 0 _ rfl; exact bP a.out⟩, ⟨bW⟩⟩
 case round =>
  clear H'
  try clear p2
  try clear c4
  try clear c7
  try clear c8
  try clear ag
  try clear ah
  try clear ai
  try clear aj
  try clear ap
  try clear aq
  try clear ar
  try clear au
  try clear az
  try clear aA
  try clear aC
  try clear aD
  try clear ak
  try clear al
  try clear am
  try clear an
  try clear av
  try clear aw
  try clear ax
  try clear ay
  try clear aE
  try clear aG
  try clear aH
  try clear aI
  obtain ⟨L, q, u, rfl, HA, aU, D, r, B, b, d, a, HB⟩ := hrel
  cases gk with
  | zero => exact absurd HA.out (by simp [Za4.l0])
  | succ k1 =>
   have H := HA.out
   clear HA
   simp only [Za4.l0] at H
   by_cases W : L < (j.length : Int); rotate_left
   ·rw [if_neg W] at H
    have aN := dF W
    clear W
    simp only [Option.some.injEq, Prod.mk.injEq] at H
    obtain ⟨rfl, rfl, rfl, rfl⟩ := H
    have bw := M.out
    have bx := x.out
    have bz := O.out
    have bA := y.out
    have aY : wr.cell? ⟨c, 0, none⟩ = some (.int .i64 m) := bc a 0
    have aZ : wr.cell? ⟨c, 1, none⟩ = some (.int .i64 s) := bc a 1
    have a0 : wr.cell? ⟨c, 2, none⟩ = some (u) := bc a 2
    have a1 : wr.cell? ⟨c, 3, none⟩ = some (.slice z j.length A) := bc a 3
    have a2 := Zae a.out 0
    have a3 := Zae a.out 1
    have a4 := Zae a.out 2
    have a5 := Zae a.out 3
    have bB := T.out
    have bC := P.out
    have a6 : wr.cell? ⟨l, 0, none⟩ = some (.int .i64 0) := bc d 0
    have a7 : wr.cell? ⟨l, 1, none⟩ = some (.int .i64 0) := bc d 1
    have a8 : wr.cell? ⟨l, 2, none⟩ = some (.slice none 0 0) := bc d 2
    have a9 : wr.cell? ⟨l, 3, none⟩ = some (.slice none 0 0) := bc d 3
    have ba := Zae d.out 0
    have bb := Zae d.out 1
    have bd := Zae d.out 2
    have bf := Zae d.out 3
    obtain ⟨X, Y, aX⟩ := zN r.out
    subst aX
    go_wp2
    refine bodyPost_ret (results_cell_row rfl _ _ l 63 #[.int .i64 m, .int .i64 s, .slice X q.length Y, .slice z j.length A] (0, 0) _ rfl (by (with_reducible repeat (first | refine Zac ?_ _ | refine Zab ?_ | refine Zaa ?_ _)); refine Zap (cs := #[.int .i64 m, .int .i64 s, .slice X q.length Y, .slice none 0 0]) ?_ 3 _ rfl; (with_reducible repeat (first | refine Zac ?_ _ | refine Zab ?_ | refine Zaa ?_ _)); refine Zap (cs := #[.int .i64 m, .int .i64 s, .slice none 0 0, .slice none 0 0]) ?_ 2 _ rfl; (with_reducible repeat (first | refine Zac ?_ _ | refine Zab ?_ | refine Zaa ?_ _)); refine Zap (cs := #[.int .i64 m, .int .i64 0, .slice none 0 0, .slice none 0 0]) ?_ 1 _ rfl; (with_reducible repeat (first | refine Zac ?_ _ | refine Zab ?_ | refine Zaa ?_ _)); refine Zap (cs := #[.int .i64 0, .int .i64 0, .slice none 0 0, .slice none 0 0]) ?_ 0 _ rfl; exact bP d.out) Try.underlying63 rfl (by kernel_rfl)) rfl ?_
    exact ⟨_, _, eW, by (with_reducible repeat (first | apply zD | apply zE | apply zB)); exact zC (zS (p := ⟨l, 3, none⟩) (zS (p := ⟨l, 2, none⟩) (zS (p := ⟨l, 1, none⟩) (zS (p := ⟨l, 0, none⟩) (yD r.out d.out (by decide)) (fun _ hk => hk.2) (.int .i64 m)) (fun _ hk => hk.2) (.int .i64 s)) (fun _ hk => hk.2) (.slice X q.length Y)) (fun _ hk => hk.2) (.slice z j.length A)) (fun _ hk => hk.1), by (with_reducible repeat (first | apply yU | apply yV | apply yS)); exact yQ (yR (p := ⟨l, 3, none⟩) (yR (p := ⟨l, 2, none⟩) (yR (p := ⟨l, 1, none⟩) (yR (p := ⟨l, 0, none⟩) (yQ B.out (fun k_ hk => (⟨hk, hk.2.2.2.1⟩ : _ ∧ k_ ≠ l))) (fun _ hk => hk.2) (.int .i64 m)) (fun _ hk => hk.2) (.int .i64 s)) (fun _ hk => hk.2) (.slice X q.length Y)) (fun _ hk => hk.2) (.slice z j.length A)) (fun _ hk => ⟨hk.1.1, hk.1.2.1⟩), bW⟩
   rw [if_pos W] at H
   have aN := dT W
   clear W
   replace H := bE H
   obtain ⟨aa, aJ, H⟩ := H
   have bk := mA aJ
   clear aJ
   by_cases ae : q.length < 140737488355328; rotate_left
   ·rw [if_neg ae] at H
    exact absurd H (by simp)
   rw [if_pos ae] at H
   have aQ := mA ae
   clear ae
   obtain ⟨U, ab⟩ : ∃ y_ : List Bool, y_ = (q ++ [aa]) := ⟨_, rfl⟩
   rw [← ab] at H
   have aR := mA ab
   clear ab
   have H' := mA H
   clear H
   try go_wp2
   replace D := mA (yS D.out)
   replace r := mA (zB r.out)
   replace B := mA (yS B.out)
   replace b := mA (Zab b.out)
   replace d := mA (Zab d.out)
   replace a := mA (Zab a.out)
   replace HB := mA (Za1 HB.out)
   refine start_ (n := 10) (S := fun w' => w'.cell? ⟨c, 0, none⟩ = some (.int .i64 m) ∧ w'.cell? ⟨c, 1, none⟩ = some (.int .i64 s) ∧ w'.cell? ⟨c, 2, none⟩ = some (u) ∧ w'.cell? ⟨c, 3, none⟩ = some (.slice z j.length A) ∧ w'.cell? ⟨E, 0, none⟩ = some (.int .i64 m) ∧ w'.cell? ⟨E, 1, none⟩ = some (.int .i64 s) ∧ w'.cell? ⟨E, 2, none⟩ = some (.int .i64 I) ∧ w'.cell? ⟨E, 3, none⟩ = some (.slice z j.length A)) (ds := [9]) #[false, false, false, false, false, false, false, false, false, false] (by kernel_rfl) rfl rfl ⟨bc a 0, bc a 1, bc a 2, bc a 3, bc b 0, bc b 1, bc b 2, bc b 3⟩ (fun hHeld => ?_); refine Zct Za4.tab5 Za4.bits5 (fun HT_ HW_ => ?_)
   generalize wr.drew = w14 at D r B b d a HB hHeld ⊢
   refine Zau (i := 0) (N := some 18) (Zav HT_.out (by kernel_rfl)) ?_
   refine Zau (i := 2) (N := some 20) (Zav HT_.out (by kernel_rfl)) ?_
   refine Zau (i := 4) (N := some 22) (Zav HT_.out (by kernel_rfl)) ?_
   refine Zbr (i := 1) (N := some 19) (Za7 HT_.out HW_.out (by kernel_rfl)) hHeld ?_
   refine Zbr (i := 3) (N := some 21) (Za7 HT_.out HW_.out (by kernel_rfl)) hHeld ?_
   refine one_ (i := 5) (N := some 23) #[true, true, true, true, true, true, false, false, false, false] rfl rfl (Zbz HT_.out (by kernel_rfl)) (by decide) (fun K hK => ?_)
   refine goes_ Try.func89 (by kernel_rfl) rfl #[.int .i64 I, .int .i64 L] (by rfl) rfl rfl (by (try simp only [List.map_toArray, List.map_cons, List.map_nil]); first | done | rfl | (simp only [List.length_drop, List.length_take]; rfl)) ?_
   with_reducible refine (impl_has.calls I L aa _ bk.out).mono ?_
   rintro e w' ⟨rfl, ⟨nd, rfl⟩⟩
   refine ⟨_, rfl, ?_⟩
   refine hK.out _ _ ⟨bc a 0, bc a 1, bc a 2, bc a 3, bc b 0, bc b 1, bc b 2, bc b 3⟩ (fun hHeld => ?_)
   clear hK K
   refine putS 23 ?_
   refine one_ (i := 6) (N := some 24) #[true, true, true, true, true, true, true, false, false, false] rfl rfl (Zbz HT_.out (by kernel_rfl)) (by decide) (fun K hK => ?_)
   refine value_ (w1 := ?_) (v := ?_) (by rfl) rfl ?_ ?_
   rotate_left 2
   ·go_simp
    constructor
    ·rfl
    ·rfl
   refine hK.out _ _ ⟨(Zbu (Zaa a.out _) 0).trans rfl, (Zbu (Zaa a.out _) 1).trans rfl, (Zbu (Zaa a.out _) 2).trans rfl, (Zbu (Zaa a.out _) 3).trans rfl, (Zbu (Zaa b.out _) 0).trans rfl, (Zbu (Zaa b.out _) 1).trans rfl, (Zbu (Zaa b.out _) 2).trans rfl, (Zbu (Zaa b.out _) 3).trans rfl⟩ (fun hHeld => ?_)
   clear hK K
   refine putS 24 ?_
   refine one_ (i := 7) (N := some 25) #[true, true, true, true, true, true, true, true, false, false] rfl rfl (Zbz HT_.out (by kernel_rfl)) (by decide) (fun K hK => ?_)
   refine xN Kd.bool (w0 := w) w.heap.size (by rfl) (.tmp 19) (.tmp 24) 61 4 (.bool false) 1 rfl Try.underlying61 info4 rfl (by decide) (by omega) u q aa [.bool aa] (fun k_ => (w.heap.size ≤ k_)) (fun _ => False) rfl rfl ?aP (fun _ hk => hk.elim) ?aF ?aO ?aB ?aS ?aL ?_
   (case aP => exact rfl)
   (case aB => exact (bW))
   (case aF => exact (fun k_ hk => (Nat.le_trans (Zao (bW)) hk)))
   (case aO => exact (rP r.out))
   (case aS => exact (Zao (bW)))
   (case aL => have := aQ.out; omega)
   intro bN bl ho hb hg hat
   rw [← aR.out] at ho
   replace D := mA (Kd.V_afterv (ok := (fun k_ => (J k_ ∨ w.heap.size ≤ k_) ∧ k_ ≠ E ∧ k_ ≠ l ∧ k_ ≠ c)) (by (with_reducible repeat (first | apply yU | apply yV | apply yS)); exact yQ D.out (fun _ hk => ⟨⟨hk.1, ⟨hk.2.2.1, ⟨hk.2.2.2.1, hk.2.2.2.2⟩⟩⟩, hk.2.1⟩)) hg hat)
   replace B := mA (Kd.V_afterv (ok := (fun k_ => (J k_ ∨ w.heap.size ≤ k_) ∧ k_ ≠ E ∧ k_ ≠ l ∧ k_ ≠ c)) (by (with_reducible repeat (first | apply yU | apply yV | apply yS)); exact yQ B.out (fun _ hk => ⟨⟨hk.1, ⟨hk.2.2.1, ⟨hk.2.2.2.1, hk.2.2.2.2⟩⟩⟩, hk.2.1⟩)) hg hat)
   replace b := mA (Zan (g := E) (o := .cells #[.int .i64 m, .int .i64 s, .int .i64 I, .slice z j.length A] 26 (0, 0)) (bP b.out) hg (zP r.out b.out (by decide)))
   replace d := mA (Zan (g := l) (o := .cells #[.int .i64 0, .int .i64 0, .slice none 0 0, .slice none 0 0] 63 (0, 0)) (bP d.out) hg (zP r.out d.out (by decide)))
   replace a := mA (Zan (g := c) (o := .cells #[.int .i64 m, .int .i64 s, u, .slice z j.length A] 63 (0, 0)) (bP a.out) hg (zP r.out a.out (by decide)))
   replace HB := mA (hb)
   have af := mA (ho)
   clear r ho hb hg hat
   obtain ⟨ac, ad, aK⟩ := zN af.out
   (first | subst aK | (injection aK with aV bm aW; have bn := aV.symm; have bo := aW.symm; clear aV bm aW; subst bn; subst bo))
   refine hK.out _ _ ⟨bc a 0, bc a 1, bc a 2, bc a 3, bc b 0, bc b 1, bc b 2, bc b 3⟩ (fun hHeld => ?_)
   clear hK K
   refine putS 25 ?_
   refine Zau (i := 8) (N := some 26) (Zav HT_.out (by kernel_rfl)) ?_
   refine last_ (i := 9) (N := none) #[true, true, true, true, true, true, true, true, true, true] rfl rfl (Zbz HT_.out (by kernel_rfl)) (by decide) (fun K hK => ?_)
   have bO : bl.cell? ⟨c, 2, none⟩ = some (u) := bc a 2
   have bD := Zae a.out 2
   have bg := x.out
   have bh := y.out
   have bi := M.out
   have bj := O.out
   refine skip_ (w1 := ?_) (by rfl) rfl ?_ ?_
   rotate_left
   ·go_simp
    rfl
   refine hK.out _ _ ?_
   clear hK K
   refine done_ (done_of HT_.out (by kernel_rfl)) ?_
   try go_wp2
   go_roundg k1
   case measure => have := aU.out; omega
   case rel => exact ⟨(wrap64 (L + 1)), (U), (.slice ac U.length ad), (eW), H', ⟨by have := aU.out; omega⟩, ⟨by (with_reducible repeat (first | apply yU | apply yV | apply yS)); exact yQ (yR (p := ⟨c, 2, none⟩) (yQ D.out (fun k_ hk => (⟨hk, hk.1.2.2.2⟩ : _ ∧ k_ ≠ c))) (fun _ hk => hk.2) (.slice ac U.length ad)) (fun _ hk => ⟨hk.1.1.1, ⟨hk.1.2, ⟨hk.1.1.2.1, ⟨hk.1.1.2.2.1, hk.1.1.2.2.2⟩⟩⟩⟩)⟩, ⟨by (with_reducible repeat (first | apply zD | apply zE | apply zB)); exact zC (zS (p := ⟨c, 2, none⟩) (yD af.out a.out (by decide)) (fun _ hk => hk.2) (.slice ac U.length ad)) (fun _ hk => hk.1)⟩, ⟨by (with_reducible repeat (first | apply yU | apply yV | apply yS)); exact yQ (yR (p := ⟨c, 2, none⟩) (yQ B.out (fun k_ hk => (⟨hk, hk.1.2.2.2⟩ : _ ∧ k_ ≠ c))) (fun _ hk => hk.2) (.slice ac U.length ad)) (fun _ hk => ⟨hk.1.1.1, ⟨hk.1.2, ⟨hk.1.1.2.1, ⟨hk.1.1.2.2.1, hk.1.1.2.2.2⟩⟩⟩⟩)⟩, ⟨by (with_reducible repeat (first | refine Zac ?_ _ | refine Zab ?_ | refine Zaa ?_ _)); refine Zal ?_ x.out _; exact bP b.out⟩, ⟨by (with_reducible repeat (first | refine Zac ?_ _ | refine Zab ?_ | refine Zaa ?_ _)); refine Zal ?_ y.out _; exact bP d.out⟩, ⟨by (with_reducible repeat (first | refine Zac ?_ _ | refine Zab ?_ | refine Zaa ?_ _)); refine Zap (cs := #[.int .i64 m, .int .i64 s, u, .slice z j.length A]) ?_ 2 _ rfl; exact bP a.out⟩, ⟨bW⟩⟩
def Zb1.f (l0 : List Bool) : Option (List Bool) := if l0.length < 140737488355328 then some l0 else none
theorem Zb1.calls (A0 : Option Addr) (c0 : Nat) (l0 : List Bool) (r : List Bool) (w : World) (a : Kd.C Kd.bool w A0 l0.length l0) (d : l0.length ≤ c0) (h : Zb1.f l0 = some r) :
    Calls Try.prog 91 #[.slice A0 l0.length c0] w fun e w' => ∃ i : Value, e = .returned (i) ∧ Kd.R Kd.bool 4 w' w.heap.size (fun _ => True) i r ∧ Below w.heap.size w w' := by
  unfold Zb1.f at h
  by_cases c2 : l0.length < 140737488355328; rotate_left
  · rw [if_neg c2] at h
    cases h
  rw [if_pos c2] at h
  have k := mA c2
  clear c2
  obtain rfl := Option.some.inj h
  clear h
  have hq := fun (W : World) => Lib.run_eql_slice_nil (P := Try.prog) W 61 4 A0 l0.length c0 0 0 Try.underlying61
  have m := mA a
  have q := mA d
  have HB := mA (Below.refl w.heap.size w)
  cases A0 with
  | none =>
    have hl : l0.length = 0 := by
      by_cases hn : 0 < l0.length
      · obtain ⟨_, e, _⟩ := a.2.2 hn
        cases e
      · omega
    have n : l0 = [] := List.eq_nil_of_length_eq_zero hl
    subst n
    clear hl a d
    have o : ∀ W, (binOp .eql 61 (.slice none 0 c0) (.slice none 0 0)).run Try.prog W = .ok (.bool true) W := hq
    clear hq
    go_enter Try.func91, Try.ntmps91
    go_wp2
    go_ret
    exact ⟨_, rfl, yN _ _ _ _ _, Below.refl _ _⟩
  | some ad =>
    clear a d
    have o : ∀ W, (binOp .eql 61 (.slice (some ad) l0.length c0) (.slice none 0 0)).run Try.prog W = .ok (.bool false) W := hq
    clear hq
    go_enter Try.func91, Try.ntmps91
    go_wp2_with (first | ((with_reducible refine Zar (N := 5) rfl ?_); refine yL Kd.bool _ 4 ?hg (N := 5) ?hd (xs := ([] : List Bool)) (inner := []) (ok := fun _ => True) (okp := fun _ => True) ?hr ?hp (fun _ hk => hk) trivial (Below.refl _ _) (Nat.le_refl _) (by simp) ?_; (case hd => rfl); (case hg => rfl); (case hr => first | (go_simp; done) | (go_simp; rfl)); (case hp => exact (Reps.none _ _)); intro l w3 j hb hg_ hnew_; clear hg_ hnew_; have c := mA (zU j (Zao (by repeat (first | (with_reducible first | exact HB.out | apply Zbb | apply Za9 | apply Za1) | exact HB.out)))); replace HB := mA (Zaf (by repeat (first | (with_reducible first | exact HB.out | apply Zbb | apply Za9 | apply Za1) | exact HB.out)) hb); clear hb j) | ((with_reducible refine Zbq (b := .append) (xs := #[.tmp 5, .tmp 6]) rfl ?_); at_builtin; refine xK Kd.bool (w0 := w) w.heap.size rfl (.tmp 5) (.tmp 6) 61 4 (.bool false) 1 rfl Try.underlying61 info4 rfl (by decide) (by omega) l [] l0 _ _ _ (fun _ => True) (fun _ => False) rfl rfl ?aO ?aR (fun _ _ h => h) (fun _ h => h.elim) ?aF ?aB ?aS ?aL ?_; (case aR => repeat (first | exact (zO m.out HB.out) | (with_reducible refine yW ?_ _) | (with_reducible refine yY ?_ _) | (with_reducible refine yX ?_))); (case aB => exact (by repeat (first | (with_reducible first | exact HB.out | apply Zbb | apply Za9 | apply Za1) | exact HB.out))); (case aF => exact (fun _ _ => trivial)); (case aO => exact (by (with_reducible repeat (first | apply zD | apply zE | apply zB)); exact c.out)); (case aS => exact (Zao (by repeat (first | (with_reducible first | exact HB.out | apply Zbb | apply Za9 | apply Za1) | exact HB.out)))); (case aL => have := k.out; simp only [List.length_nil]; omega); intro p w5 ho hb hg hat; rw [List.nil_append] at ho; replace HB := mA (hb); have g := mA (ho); clear c ho hb hg hat))
    go_ret
    exact ⟨_, rfl, by (with_reducible repeat (first | apply zD | apply zE | apply zB)); exact g.out, by repeat (first | (with_reducible first | exact HB.out | apply Zbb | apply Za9 | apply Za1) | exact HB.out)⟩
end Go.Proofs.Ytgindgodfcfgkaa.P
end M0
