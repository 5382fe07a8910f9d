import Derived.Test.YtgindgodfcfgkaaDoorCFnExactLettersCommute10
section M0
namespace Go.Proofs.YtgindgodfcfgkaaDoor.P
open Go.RowKit Go.Proofs.YtgindgodfcfgkaaDoor.Sh Go.Proofs.YtgindgodfcfgkaaDoorW.PrintWords Go.Proofs.YtgindgodfcfgkaaDoorW.PrintLast Go.Proofs.YtgindgodfcfgkaaDoorW.PrintMore
open Kd
attribute [local go_sem] Zcd Zca Zcn Zcm Zb1 Zb2 Zcc Zce   -- for this text's walks alone
set_option linter.unusedVariables false
set_option linter.unusedSimpArgs false
theorem rdM_get {l : List S34} {k : Nat} (hk : k < l.length) : rd_T34 l (k : Int) = l[k] := by
  unfold rd_T34; rw [List.getD_eq_getElem?_getD, Int.toNat_natCast, List.getElem?_eq_getElem hk]; rfl
set_option maxHeartbeats 4000000 in
theorem idxM (g : Nat) (lb : Array Value) (eg : ∀ args w, (callFunc g args).run Tryd.prog w = .ok (.enter g args) w) (p : S34 → Bool) (A : Option Addr) (c : Nat) (l : List S34) (w : World) (hr : Kd.C k34 w A l.length l)
    (hp : ∀ (W : World) (x : S34) (A' : Option Addr) (c' : Nat), x ∈ l → Below w.heap.size w W → Kd.C (Kd.slice 2 (Kd.int .i64)) W A' x.f3.length x.f3 → x.f3.length ≤ c' → Calls Tryd.prog g (#[.agg #[.int .i64 x.f0, .int .i64 x.f1, .int .i64 x.f2, .slice A' x.f3.length c']] ++ lb) W fun e w' => e = .returned (.bool (p x)) ∧ Below W.heap.size W w') :
    Calls Tryd.prog 63 #[.slice A l.length c, .func (.func g) #[] lb] w fun e w' => e = .returned (.int .i64 (fidx p l)) ∧ Below w.heap.size w w' := by
  have hu := Tryd.underlying34
  have HR := Zaa.mk hr
  have hlen : l.length ≤ 9223372036854775807 := hr.2.1
  clear hr
  have HP := Zaa.mk hp
  clear hp
  go_enter Tryd.func63, Tryd.ntmps63
  go_wp2
  go_loopg [5, 8] l.length (fun gg _ s8 wr => ∃ kk : Nat, kk ≤ l.length ∧ l.length - kk ≤ gg ∧ s8 = .int .i64 kk ∧ Zaa (Below w.heap.size w wr) ∧ Zaa (∀ j (hj : j < kk) (hl : j < l.length), p l[j] = false))
  case atStart => exact ⟨0, Nat.zero_le _, by omega, rfl, ⟨Below.refl _ w⟩, ⟨fun j hj => absurd hj (Nat.not_lt_zero _)⟩⟩
  case round =>
    obtain ⟨kk, hkk, hg, rfl, BW, AS⟩ := hrel
    by_cases hlt : kk < l.length
    · have hltz : (kk : Int) < (l.length : Int) := by omega
      have h : 0 ≤ (kk : Int) := by omega
      obtain ⟨ad, A', c', e, hx, a, b, d, hlc, hin⟩ := at_T34 HR.out (kk : Int) h hltz
      cases e
      replace hx := (BW.out.cell (World.block_lt_of_cell? w _ hx)).trans hx
      replace a := (BW.out.cell (World.block_lt_of_cell? w _ a)).trans a
      replace b := (BW.out.cell (World.block_lt_of_cell? w _ b)).trans b
      replace d := (BW.out.cell (World.block_lt_of_cell? w _ d)).trans d
      rw [rdM_get hlt] at hx a b d hlc hin
      rw [Int.toNat_natCast] at hx a b d
      have hcall := HP.out wr l[kk] A' c' (List.getElem_mem hlt) BW.out (Kd.zF hin BW.out) hlc
      clear hlc hin
      cases hq : p l[kk] with
      | true =>
        rw [hq] at hcall
        have HQ := Zaa.mk hq
        clear hq
        generalize hy : l[kk] = y at hx a b d hcall
        clear hy
        go_wp2_with (go_at_fn g; refine hcall.mono ?_; rintro e w' ⟨rfl, hb'⟩)
        go_ret
        exact ⟨by rw [fidx_hit hlt HQ.out (fun j hj => AS.out j hj _)]; rfl, Zac BW.out hb'⟩
      | false =>
        rw [hq] at hcall
        have HQ := Zaa.mk hq
        clear hq
        generalize hy : l[kk] = y at hx a b d hcall
        clear hy
        go_wp2_with (go_at_fn g; refine hcall.mono ?_; rintro e w' ⟨rfl, hb'⟩)
        go_roundg (l.length - (kk + 1))
        case measure => omega
        case rel =>
          refine ⟨kk + 1, by omega, by omega, by go_num, ⟨Zac BW.out hb'⟩, ⟨fun j hj hl => ?_⟩⟩
          by_cases e : j = kk
          · subst e
            exact HQ.out
          · exact AS.out j (by omega) hl
    · have hltz : ¬ (kk : Int) < (l.length : Int) := by omega
      have hke : kk = l.length := by omega
      have HKE := Zaa.mk hke
      clear hke
      go_wp2
      go_ret
      exact ⟨by rw [fidx_miss (fun j hj => AS.out j (by have := HKE.out; omega) hj)]; rfl, BW.out⟩
set_option maxHeartbeats 2000000 in
theorem conM (g : Nat) (lb : Array Value) (eg : ∀ args w, (callFunc g args).run Tryd.prog w = .ok (.enter g args) w) (p : S34 → Bool) (A : Option Addr) (c : Nat) (l : List S34) (w : World) (hr : Kd.C k34 w A l.length l)
    (hp : ∀ (W : World) (x : S34) (A' : Option Addr) (c' : Nat), x ∈ l → Below w.heap.size w W → Kd.C (Kd.slice 2 (Kd.int .i64)) W A' x.f3.length x.f3 → x.f3.length ≤ c' → Calls Tryd.prog g (#[.agg #[.int .i64 x.f0, .int .i64 x.f1, .int .i64 x.f2, .slice A' x.f3.length c']] ++ lb) W fun e w' => e = .returned (.bool (p x)) ∧ Below W.heap.size W w') :
    Calls Tryd.prog 40 #[.slice A l.length c, .func (.func g) #[] lb] w fun e w' => e = .returned (.bool (l.any p)) ∧ Below w.heap.size w w' := by
  have HI := Zaa.mk (fun w0 (h0 : w0 = w) => h0 ▸ idxM g lb eg p A c l w hr hp)
  rw [← fidx_nonneg]
  clear hr hp
  go_enter Tryd.func40, Tryd.ntmps40
  go_wp2_with (go_at_call 63; refine (HI.out _ rfl).mono ?_; rintro e w' ⟨rfl, hb'⟩)
  go_ret
  exact ⟨rfl, hb'⟩
set_option maxHeartbeats 2000000 in
theorem over_1 (x : S34) (A : Option Addr) (c : Nat) (w : World) (hr : Kd.C (Kd.slice 2 (Kd.int .i64)) w A x.f3.length x.f3) (hc : x.f3.length ≤ c) :
    Calls Tryd.prog 41 #[.agg #[.int .i64 x.f0, .int .i64 x.f1, .int .i64 x.f2, .slice A x.f3.length c]] w fun e w' => e = .returned (.bool (!isAut x.f0 x.f1 x.f2 x.f3)) ∧ Below w.heap.size w w' := by
  have hu := Tryd.underlying34
  have HA := Zaa.mk (fun W (hb : Below w.heap.size w W) => Zdv.calls x.f0 x.f1 x.f2 A c x.f3 _ W (Kd.zF hr hb) hc rfl)
  clear hr hc
  generalize isAut x.f0 x.f1 x.f2 x.f3 = b at HA ⊢
  go_enter Tryd.func41, Tryd.ntmps41
  go_wp2_with (go_at_call 42; refine (HA.out _ (by repeat (first | apply Zbk | apply Zbd | apply Za0 | exact Below.refl _ _))).mono ?_; rintro e w' ⟨rfl, hb'⟩)
  go_ret
  exact ⟨rfl, Zac (by repeat (first | apply Zbk | apply Zbd | apply Za0 | exact Below.refl _ _)) hb'⟩
set_option maxHeartbeats 2000000 in
theorem over_2 (L : Int) (b1 : Nat) (x : S34) (A : Option Addr) (c : Nat) (w : World) (h1 : w.cell? ⟨b1, 0, none⟩ = some (.int .i64 L)) (a : b1 < w.heap.size) :
    Calls Tryd.prog 43 #[.agg #[.int .i64 x.f0, .int .i64 x.f1, .int .i64 x.f2, .slice A x.f3.length c], .pointer (some ⟨b1, 0, none⟩)] w fun e w' => e = .returned (.bool (x.f0 != L)) ∧ Below w.heap.size w w' := by
  have hu := Tryd.underlying34
  have b := Tryd.underlying32
  have hne : b1 ≠ w.heap.size := by omega
  go_enter Tryd.func43, Tryd.ntmps43
  go_wp2
  go_ret
  exact ⟨rfl, by repeat (first | apply Zbk | apply Zbd | apply Za0 | exact Below.refl _ _)⟩
def Zdb.f (k : Nat) (a : Int) (c : List Int) (l1 : List (S34)) : Option Int := (Zax.f k a c).bind fun b => some (if b then (if l1.any (fun m => !isAut m.f0 m.f1 m.f2 m.f3) then 1 else if l1.any (fun m => m.f0 != a) then 2 else 0) else 1)
set_option maxHeartbeats 4000000 in
set_option maxRecDepth 100000 in
theorem Zdb.calls (k : Nat) (c : Int) (i : Option Addr) (j : Nat) (d : List Int) (A1 : Option Addr) (c1 : Nat) (l1 : List (S34)) (r : Int) (w : World) (q : Kd.C (Kd.int .i64) w i d.length d) (s : d.length ≤ j) (t : Kd.C k34 w A1 l1.length l1) (B : l1.length ≤ c1) (h : Zdb.f k c d l1 = some r) (hTab : Tab w) :
    Calls Tryd.prog 21 #[.agg #[.int .i64 c, .slice i d.length j], .slice A1 l1.length c1] w fun e w' => e = .returned (.int .i64 r) ∧ Below w.heap.size w w' := by
  have D := Tryd.underlying32
  unfold Zdb.f at h
  obtain ⟨b, hb, h1⟩ := Option.bind_eq_some_iff.mp h
  clear h
  have h := Option.some.inj h1
  clear h1
  have HB := mA (Below.refl w.heap.size w)
  have HA := mA (fun W (hw : Below w.heap.size w W) => Zax.calls k c i j d b W (zF q hw) s hb (Tab.below hw hTab))
  have H1 := mA (fun W (hw : Below w.heap.size w W) => conM 41 #[] (enters_of Tryd.func41 (by kernel_rfl) rfl) (fun m => !isAut m.f0 m.f1 m.f2 m.f3) A1 c1 l1 W (zF t hw)
      (fun W' x A' c' _ _ hC hc => over_1 x A' c' W' hC hc))
  have H2 := mA (fun W (hw : Below w.heap.size w W) (b1 : Nat) (h1 : W.cell? ⟨b1, 0, none⟩ = some (.int .i64 c)) (a : b1 < W.heap.size) => conM 43 #[.pointer (some ⟨b1, 0, none⟩)] (enters_of Tryd.func43 (by kernel_rfl) rfl) (fun m => m.f0 != c) A1 c1 l1 W (zF t hw)
      (fun W' x A' c' _ hb' _ _ => over_2 c b1 x A' c' W' ((hb'.cell (p := ⟨b1, 0, none⟩) a).trans h1) (Nat.lt_of_lt_of_le a hb'.size)))
  generalize l1.any (fun m => !isAut m.f0 m.f1 m.f2 m.f3) = q1 at H1 h
  generalize l1.any (fun m => m.f0 != c) = q2 at H2 h
  clear q s t hb hTab
  cases b
  · simp only [Bool.false_eq_true, if_false] at h
    subst h
    clear H1 H2
    go_enter Tryd.func21, Tryd.ntmps21
    go_wp2_with (go_at_call 39; refine (HA.out _ bW).mono ?_; rintro e w1 ⟨rfl, a⟩)
    go_ret
    exact ⟨rfl, Zac bW a⟩
  simp only [if_true] at h
  have v : ∀ W : World, Below w.heap.size w W → Below w.heap.size w (W.alloc (.cells #[.int .i64 c, .slice i d.length j] 32)) := fun W hW => Zbk hW _
  have y : ∀ w1, Below (w.alloc (.cells #[.int .i64 c, .slice i d.length j] 32)).heap.size (w.alloc (.cells #[.int .i64 c, .slice i d.length j] 32)) w1 → w1.cell? ⟨w.heap.size, 0, none⟩ = some (.int .i64 c) := fun w1 hb => (hb.cell (p := ⟨w.heap.size, 0, none⟩) (by simp)).trans (by go_simp)
  have z : ∀ w1, Below (w.alloc (.cells #[.int .i64 c, .slice i d.length j] 32)).heap.size (w.alloc (.cells #[.int .i64 c, .slice i d.length j] 32)) w1 → Zaa (w.heap.size < w1.heap.size) := fun w1 hb => ⟨by have := hb.size; simp at this; omega⟩
  have A0 := mA v
  have K0 := mA y
  have K1 := mA z
  clear v y z
  cases q1; rotate_left
  · simp only [if_true] at h
    subst h
    clear H2
    go_enter Tryd.func21, Tryd.ntmps21
    go_wp2_with (first | (go_at_call 39; refine (HA.out _ (A0.out _ HB.out)).mono ?_; rintro e w1 ⟨rfl, a⟩; have L1 := K1.out _ a; have l := mA (Zac (A0.out _ HB.out) a); have k1 := K0.out _ a; have A := mA a; clear a) | (go_at_call 40; (with_reducible refine (H1.out _ l.out).mono ?_); rintro e w2 ⟨rfl, g⟩; have L2 := mA (Nat.lt_of_lt_of_le L1.out g.size); have k2 := (g.cell (p := ⟨w.heap.size, 0, none⟩) L1.out).trans k1; have n := mA (Zac l.out g); clear g k1))
    go_ret
    exact ⟨rfl, n.out⟩
  simp only [Bool.false_eq_true, if_false] at h
  cases q2; rotate_left
  · simp only [if_true] at h
    subst h
    go_enter Tryd.func21, Tryd.ntmps21
    go_wp2_with (first | (go_at_call 39; refine (HA.out _ (A0.out _ HB.out)).mono ?_; rintro e w1 ⟨rfl, a⟩; have L1 := K1.out _ a; have l := mA (Zac (A0.out _ HB.out) a); have k1 := K0.out _ a; have A := mA a; clear a) | (go_at_call 40; (with_reducible refine (H1.out _ l.out).mono ?_); rintro e w2 ⟨rfl, g⟩; have L2 := mA (Nat.lt_of_lt_of_le L1.out g.size); have k2 := (g.cell (p := ⟨w.heap.size, 0, none⟩) L1.out).trans k1; have n := mA (Zac l.out g); clear g k1) | (go_at_call 40; (with_reducible refine (H2.out _ n.out _ k2 L2.out).mono ?_); rintro e w3 ⟨rfl, o⟩; have u := mA (Zac n.out o); clear o))
    go_ret
    exact ⟨rfl, u.out⟩
  simp only [Bool.false_eq_true, if_false] at h
  subst h
  go_enter Tryd.func21, Tryd.ntmps21
  go_wp2_with (first | (go_at_call 39; refine (HA.out _ (A0.out _ HB.out)).mono ?_; rintro e w1 ⟨rfl, a⟩; have L1 := K1.out _ a; have l := mA (Zac (A0.out _ HB.out) a); have k1 := K0.out _ a; have A := mA a; clear a) | (go_at_call 40; (with_reducible refine (H1.out _ l.out).mono ?_); rintro e w2 ⟨rfl, g⟩; have L2 := mA (Nat.lt_of_lt_of_le L1.out g.size); have k2 := (g.cell (p := ⟨w.heap.size, 0, none⟩) L1.out).trans k1; have n := mA (Zac l.out g); clear g k1) | (go_at_call 40; (with_reducible refine (H2.out _ n.out _ k2 L2.out).mono ?_); rintro e w3 ⟨rfl, o⟩; have u := mA (Zac n.out o); clear o))
  go_ret
  exact ⟨rfl, u.out⟩
def Zbe.l0 : Nat → Int → Int → Int → Int → Int → List (List Int) → Int → Int → List Bool → List (List Int) → Option (Int × Int × List Bool × (List (List Int)))
 | 0, _, _, _, _, _, _, _, _, _, _ => none
 | k + 1, l, j, g, h, b, i, c, d, a, e => if j < l then ((Zde.f b j).bind fun m => (if a.length < 140737488355328 then (Zbe.l0 k l (wrap64 (j + 1)) g h b i c d (a ++ [m]) e) else (none))) else (some (c, d, a, e))
def Zbe.f (k : Nat) (b : Int) (c : Int) (d : Int) (a : List (List Int)) : Option (Int × Int × List Bool × (List (List Int))) := Zbe.l0 k (a.length : Int) 0 b c d a b c ([] : List Bool) a
def Zbe.T5 : Bool × List (List Nat × List Nat) := (true, [([], []), ([0], [0]), ([], []), ([2], [2]), ([], []), ([3, 4], [3, 4]), ([5], [5]), ([1, 6, 5], [1, 6]), ([0, 1, 2, 3, 4, 5, 6, 7], []), ([8, 7, 7, 0, 1, 2, 3, 4, 5, 6, 7], [7, 8])])
def Zbe.B5 : List Nat := [0, 1, 0, 4, 0, 28, 60, 127, 255, 511]
theorem Zbe.tab5 : rtab .any (opsOf Tryd.f22 5) = Zbe.T5 := by kernel_rfl
theorem Zbe.bits5 : Zc0 Zbe.T5.2 Zbe.B5 = true := by kernel_rfl
set_option maxHeartbeats 8000000 in
set_option maxRecDepth 100000 in
theorem Zbe.calls (k : Nat) (m : Int) (s : Int) (I : Int) (J : Nat → Prop) (z : Option Addr) (A : Nat) (j : List (List Int)) (r1 : Int) (r2 : Int) (r3 : List Bool) (r4 : List (List Int)) (w : World) (aM : Kd.V (Kd.slice 2 (Kd.int .i64)) 22 w w.heap.size (fun k_ => J k_) (.slice z j.length A) j) (h : Zbe.f k m s I j = some (r1, r2, r3, r4)) :
  Calls Tryd.prog 22 #[.agg #[.int .i64 m, .int .i64 s, .int .i64 I, .slice z j.length A]] w fun e w' => ∃ ao aT : Value, e = .returned (.agg #[.int .i64 r1, .int .i64 r2, ao, aT]) ∧ Kd.R Kd.bool 4 w' w.heap.size (fun k_ => (w.heap.size ≤ k_)) ao r3 ∧ Kd.V (Kd.slice 2 (Kd.int .i64)) 22 w' w.heap.size (fun k_ => (J k_ ∨ w.heap.size ≤ k_) ∧ some k_ ≠ (ao : Value).ownBlock) aT r4 ∧ Below w.heap.size w w' := by
 have bF := Tryd.underlying34
 have bG := Tryd.underlying48
 have G := mA (show Kd.V (Kd.slice 2 (Kd.int .i64)) 22 w w.heap.size (fun k_ => (J k_ ∨ w.heap.size ≤ k_)) (.slice z j.length A) j from yS aM (fun k_ hk => .inl hk))
 have HB := mA (Below.refl w.heap.size w)
 unfold Zbe.f at h
 have H := h
 clear h
 have H' := mA H
 clear H
 go_enter Tryd.func22, Tryd.ntmps22
 go_wp2_with (first | ((with_reducible refine Zap (N := 1) rfl ?_); refine boxS (N := 1) (cs := #[.int .i64 m, .int .i64 s, .int .i64 I, .slice z j.length A]) (t := 34) ?_; intro E hg w2 hbox hb; replace G := mA (yO (xZ (by (with_reducible repeat (first | apply zX | apply zY | apply zV)); exact G.out) E (Nat.le_of_eq hg.symm)) hb); have b := mA (hbox); have bp := geW (w := w) hg; have bq := geW (w := w) hg; replace HB := mA (Zac (bW) hb); clear hb hbox hg) | ((with_reducible refine Zap (N := 2) rfl ?_); refine boxS (N := 2) (cs := #[.int .i64 0, .int .i64 0, .slice none 0 0, .slice none 0 0]) (t := 48) ?_; intro l hg w3 hbox hb; replace G := mA (yO (xZ (by (with_reducible repeat (first | apply zX | apply zY | apply zV)); exact G.out) l (Nat.le_of_eq hg.symm)) hb); have d := mA (hbox); have br := geW (w := w) hg; have bs := geW (w := w) hg; replace HB := mA (Zac (bW) hb); have P := mA (neB hg b); have T := mA (neC hg b); replace b := mA (blkB b.out hb); clear hb hbox hg; have bH := P.out; have bI := T.out; obtain ⟨ap, aq, ar, au⟩ := Zbi b.out; obtain ⟨av, aw, ax, ay⟩ := frz4 b.out) | ((with_reducible refine Zap (N := 3) rfl ?_); refine boxS (N := 3) (cs := #[.int .i64 0, .int .i64 0, .slice none 0 0, .slice none 0 0]) (t := 48) ?_; intro c hg w6 hbox hb; replace G := mA (yO (xZ (by (with_reducible repeat (first | apply zX | apply zY | apply zV)); exact G.out) c (Nat.le_of_eq hg.symm)) hb); have a := mA (hbox); have bu := geW (w := w) hg; have bv := geW (w := w) hg; replace HB := mA (Zac (bW) hb); have x := mA (neB hg b); have M := mA (neC hg b); replace b := mA (blkB b.out hb); have y := mA (neB hg d); have O := mA (neC hg d); replace d := mA (blkB d.out hb); clear hb hbox hg; have bJ := M.out; have bK := x.out; have bL := O.out; have bM := y.out; obtain ⟨az, aA, aC, aD⟩ := Zbi a.out; obtain ⟨aE, aG, aH, aI⟩ := frz4 a.out; obtain ⟨ag, ah, ai, aj⟩ := Zbi b.out; obtain ⟨ak, al, am, an⟩ := frz4 b.out))
 go_loopg [15] k (fun kq v15 w' => ∃ (L : Int) (q : List Bool) (u : Value), v15 = .int .i64 L ∧ Zaa (Zbe.l0 kq (j.length : Int) L m s I j m s q j = some (r1, r2, r3, r4)) ∧ Zaa (kq ≤ k) ∧ Zaa (Kd.V (Kd.slice 2 (Kd.int .i64)) 22 w' w.heap.size (fun k_ => (J k_ ∨ w.heap.size ≤ k_) ∧ some k_ ≠ (u : Value).ownBlock ∧ k_ ≠ E ∧ k_ ≠ l ∧ k_ ≠ c) (.slice z j.length A) j) ∧ Zaa (Kd.R Kd.bool 4 w' w.heap.size (fun k_ => (w.heap.size ≤ k_)) u q) ∧ Zaa (Kd.V (Kd.slice 2 (Kd.int .i64)) 22 w' w.heap.size (fun k_ => (J k_ ∨ w.heap.size ≤ k_) ∧ some k_ ≠ (u : Value).ownBlock ∧ k_ ≠ E ∧ k_ ≠ l ∧ k_ ≠ c) (.slice z j.length A) j) ∧ Zaa (w'.heap[E]? = some (.cells #[.int .i64 m, .int .i64 s, .int .i64 I, (.slice z j.length A)] 34 (0, 0))) ∧ Zaa (w'.heap[l]? = some (.cells #[.int .i64 0, .int .i64 0, (.slice none 0 0), (.slice none 0 0)] 48 (0, 0))) ∧ Zaa (w'.heap[c]? = some (.cells #[.int .i64 m, .int .i64 s, u, (.slice z j.length A)] 48 (0, 0))) ∧ Zaa (Below w.heap.size w w'))
 case atStart => exact ⟨(0), (([] : List Bool)), (.slice none 0 0), (eW), H', ⟨Nat.le_refl _⟩, ⟨by (with_reducible repeat (first | apply zX | apply zY | apply zV)); exact yS (xG (p := ⟨c, 3, none⟩) (xG (p := ⟨c, 2, none⟩) (xG (p := ⟨c, 1, none⟩) (xG (p := ⟨c, 0, none⟩) (yS G.out (fun k_ hk => (⟨hk, hk.2⟩ : _ ∧ k_ ≠ c))) (fun _ hk => hk.2) (.int .i64 m)) (fun _ hk => hk.2) (.int .i64 s)) (fun _ hk => hk.2) (.slice none 0 0)) (fun _ hk => hk.2) (.slice z j.length A)) (fun _ hk => ⟨hk.1.1.1.1, ⟨(by simp [Value.ownBlock]), ⟨hk.1.1.1.2, ⟨hk.1.1.2, hk.1.2⟩⟩⟩⟩)⟩, ⟨by first | exact xH _ _ _ _ _ | exact Kd.N_nil _ _ _ _ _ | exact Kd.V_nil _ _ _ _ _ | exact Kd.Q_nil _ _ _ _ _ | exact Kd.S_nil _ _ _ _ _⟩, ⟨by (with_reducible repeat (first | apply zX | apply zY | apply zV)); exact yS (xG (p := ⟨c, 3, none⟩) (xG (p := ⟨c, 2, none⟩) (xG (p := ⟨c, 1, none⟩) (xG (p := ⟨c, 0, none⟩) (yS G.out (fun k_ hk => (⟨hk, hk.2⟩ : _ ∧ k_ ≠ c))) (fun _ hk => hk.2) (.int .i64 m)) (fun _ hk => hk.2) (.int .i64 s)) (fun _ hk => hk.2) (.slice none 0 0)) (fun _ hk => hk.2) (.slice z j.length A)) (fun _ hk => ⟨hk.1.1.1.1, ⟨(by simp [Value.ownBlock]), ⟨hk.1.1.1.2, ⟨hk.1.1.2, hk.1.2⟩⟩⟩⟩)⟩, ⟨by (with_reducible repeat (first | refine Zaj ?_ _ | refine Zad ?_ | refine Zaf ?_ _)); refine Za4 ?_ x.out _; (with_reducible repeat (first | refine Zaj ?_ _ | refine Zad ?_ | refine Zaf ?_ _)); refine Za4 ?_ x.out _; (with_reducible repeat (first | refine Zaj ?_ _ | refine Zad ?_ | refine Zaf ?_ _)); refine Za4 ?_ x.out _; (with_reducible repeat (first | refine Zaj ?_ _ | refine Zad ?_ | refine Zaf ?_ _)); refine Za4 ?_ x.out _; exact bP b.out⟩, ⟨by (with_reducible repeat (first | refine Zaj ?_ _ | refine Zad ?_ | refine Zaf ?_ _)); refine Za4 ?_ y.out _; (with_reducible repeat (first | refine Zaj ?_ _ | refine Zad ?_ | refine Zaf ?_ _)); refine Za4 ?_ y.out _; (with_reducible repeat (first | refine Zaj ?_ _ | refine Zad ?_ | refine Zaf ?_ _)); refine Za4 ?_ y.out _; (with_reducible repeat (first | refine Zaj ?_ _ | refine Zad ?_ | refine Zaf ?_ _)); refine Za4 ?_ y.out _; exact bP d.out⟩, ⟨by (with_reducible repeat (first | refine Zaj ?_ _ | refine Zad ?_ | refine Zaf ?_ _)); refine Za3 (cs := #[.int .i64 m, .int .i64 s, .slice none 0 0, .slice none 0 0]) ?_ 3 _ rfl; (with_reducible repeat (first | refine Zaj ?_ _ | refine Zad ?_ | refine Zaf ?_ _)); refine Za3 (cs := #[.int .i64 m, .int .i64 s, .slice none 0 0, .slice none 0 0]) ?_ 2 _ rfl; (with_reducible repeat (first | refine Zaj ?_ _ | refine Zad ?_ | refine Zaf ?_ _)); refine Za3 (cs := #[.int .i64 m, .int .i64 0, .slice none 0 0, .slice none 0 0]) ?_ 1 _ rfl; (with_reducible repeat (first | refine Zaj ?_ _ | refine Zad ?_ | refine Zaf ?_ _)); refine Za3 (cs := #[.int .i64 0, .int .i64 0, .slice none 0 0, .slice none 0 0]) ?_ 0 _ rfl; exact bP a.out⟩, ⟨bW⟩⟩
 case round =>
  clear H' ag ah ai aj ap aq ar au az aA aC aD ak al am an av aw ax ay aE aG aH aI
  obtain ⟨L, q, u, rfl, HA, aU, D, r, B, b, d, a, HB⟩ := hrel
  cases gk with
  | zero => exact absurd HA.out (by simp [Zbe.l0])
  | succ k1 =>
   have H := HA.out
   clear HA
   simp only [Zbe.l0] at H
   by_cases W : L < (j.length : Int); rotate_left
   ·rw [if_neg W] at H
    have aN := dF W
    clear W
    simp only [Option.some.injEq, Prod.mk.injEq] at H
    obtain ⟨rfl, rfl, rfl, rfl⟩ := H
    have bw := M.out
    have bx := x.out
    have bz := O.out
    have bA := y.out
    have aY : wr.cell? ⟨c, 0, none⟩ = some (.int .i64 m) := bc a 0
    have aZ : wr.cell? ⟨c, 1, none⟩ = some (.int .i64 s) := bc a 1
    have a0 : wr.cell? ⟨c, 2, none⟩ = some (u) := bc a 2
    have a1 : wr.cell? ⟨c, 3, none⟩ = some (.slice z j.length A) := bc a 3
    have a2 := Zab a.out 0
    have a3 := Zab a.out 1
    have a4 := Zab a.out 2
    have a5 := Zab a.out 3
    have bB := T.out
    have bC := P.out
    have a6 : wr.cell? ⟨l, 0, none⟩ = some (.int .i64 0) := bc d 0
    have a7 : wr.cell? ⟨l, 1, none⟩ = some (.int .i64 0) := bc d 1
    have a8 : wr.cell? ⟨l, 2, none⟩ = some (.slice none 0 0) := bc d 2
    have a9 : wr.cell? ⟨l, 3, none⟩ = some (.slice none 0 0) := bc d 3
    have ba := Zab d.out 0
    have bb := Zab d.out 1
    have bd := Zab d.out 2
    have bf := Zab d.out 3
    obtain ⟨X, Y, aX⟩ := zJ r.out
    subst aX
    go_wp2
    refine bodyPost_ret (results_cell_row rfl _ _ l 48 #[.int .i64 m, .int .i64 s, .slice X q.length Y, .slice z j.length A] (0, 0) _ rfl (by (with_reducible repeat (first | refine Zaj ?_ _ | refine Zad ?_ | refine Zaf ?_ _)); refine Za3 (cs := #[.int .i64 m, .int .i64 s, .slice X q.length Y, .slice none 0 0]) ?_ 3 _ rfl; (with_reducible repeat (first | refine Zaj ?_ _ | refine Zad ?_ | refine Zaf ?_ _)); refine Za3 (cs := #[.int .i64 m, .int .i64 s, .slice none 0 0, .slice none 0 0]) ?_ 2 _ rfl; (with_reducible repeat (first | refine Zaj ?_ _ | refine Zad ?_ | refine Zaf ?_ _)); refine Za3 (cs := #[.int .i64 m, .int .i64 0, .slice none 0 0, .slice none 0 0]) ?_ 1 _ rfl; (with_reducible repeat (first | refine Zaj ?_ _ | refine Zad ?_ | refine Zaf ?_ _)); refine Za3 (cs := #[.int .i64 0, .int .i64 0, .slice none 0 0, .slice none 0 0]) ?_ 0 _ rfl; exact bP d.out) Tryd.underlying48 rfl (by kernel_rfl)) rfl ?_
    exact ⟨_, _, eW, by (with_reducible repeat (first | apply zC | apply zD | apply zA)); exact zB (zQ (p := ⟨l, 3, none⟩) (zQ (p := ⟨l, 2, none⟩) (zQ (p := ⟨l, 1, none⟩) (zQ (p := ⟨l, 0, none⟩) (yA r.out d.out (by decide)) (fun _ hk => hk.2) (.int .i64 m)) (fun _ hk => hk.2) (.int .i64 s)) (fun _ hk => hk.2) (.slice X q.length Y)) (fun _ hk => hk.2) (.slice z j.length A)) (fun _ hk => hk.1), by (with_reducible repeat (first | apply zX | apply zY | apply zV)); exact yS (xG (p := ⟨l, 3, none⟩) (xG (p := ⟨l, 2, none⟩) (xG (p := ⟨l, 1, none⟩) (xG (p := ⟨l, 0, none⟩) (yS B.out (fun k_ hk => (⟨hk, hk.2.2.2.1⟩ : _ ∧ k_ ≠ l))) (fun _ hk => hk.2) (.int .i64 m)) (fun _ hk => hk.2) (.int .i64 s)) (fun _ hk => hk.2) (.slice X q.length Y)) (fun _ hk => hk.2) (.slice z j.length A)) (fun _ hk => ⟨hk.1.1, hk.1.2.1⟩), bW⟩
   rw [if_pos W] at H
   have aN := dT W
   clear W
   replace H := bE H
   obtain ⟨aa, aJ, H⟩ := H
   have bk := mA aJ
   clear aJ
   by_cases ae : q.length < 140737488355328; rotate_left
   ·rw [if_neg ae] at H
    exact absurd H (by simp)
   rw [if_pos ae] at H
   have aQ := mA ae
   clear ae
   obtain ⟨U, ab⟩ : ∃ y_ : List Bool, y_ = (q ++ [aa]) := ⟨_, rfl⟩
   rw [← ab] at H
   have aR := mA ab
   clear ab
   have H' := mA H
   clear H
   try go_wp2
   replace D := mA (zV D.out)
   replace r := mA (zA r.out)
   replace B := mA (zV B.out)
   replace b := mA (Zad b.out)
   replace d := mA (Zad d.out)
   replace a := mA (Zad a.out)
   replace HB := mA (Za0 HB.out)
   refine Zcq (n := 10) (S := fun w' => w'.cell? ⟨c, 0, none⟩ = some (.int .i64 m) ∧ w'.cell? ⟨c, 1, none⟩ = some (.int .i64 s) ∧ w'.cell? ⟨c, 2, none⟩ = some (u) ∧ w'.cell? ⟨c, 3, none⟩ = some (.slice z j.length A) ∧ w'.cell? ⟨E, 0, none⟩ = some (.int .i64 m) ∧ w'.cell? ⟨E, 1, none⟩ = some (.int .i64 s) ∧ w'.cell? ⟨E, 2, none⟩ = some (.int .i64 I) ∧ w'.cell? ⟨E, 3, none⟩ = some (.slice z j.length A)) (ds := [9]) #[false, false, false, false, false, false, false, false, false, false] (by kernel_rfl) rfl rfl ⟨bc a 0, bc a 1, bc a 2, bc a 3, bc b 0, bc b 1, bc b 2, bc b 3⟩ (fun hHeld => ?_); refine Zb7 Zbe.tab5 Zbe.bits5 (fun HT_ HW_ => ?_)
   generalize wr.drew = w14 at D r B b d a HB hHeld ⊢
   refine Zan (i := 0) (N := some 18) (Zai HT_.out (by kernel_rfl)) ?_
   refine Zan (i := 2) (N := some 20) (Zai HT_.out (by kernel_rfl)) ?_
   refine Zan (i := 4) (N := some 22) (Zai HT_.out (by kernel_rfl)) ?_
   refine Za8 (i := 1) (N := some 19) (Zaz HT_.out HW_.out (by kernel_rfl)) hHeld ?_
   refine Za8 (i := 3) (N := some 21) (Zaz HT_.out HW_.out (by kernel_rfl)) hHeld ?_
   refine one_ (i := 5) (N := some 23) #[true, true, true, true, true, true, false, false, false, false] rfl rfl (Za9 HT_.out (by kernel_rfl)) (by decide) (fun K hK => ?_)
   refine Zb6 Tryd.func44 (by kernel_rfl) rfl #[.int .i64 I, .int .i64 L] (by rfl) rfl rfl (by (try simp only [List.map_toArray, List.map_cons, List.map_nil]); first | done | rfl | (simp only [List.length_drop, List.length_take]; rfl)) ?_
   with_reducible refine (Zde.calls I L aa _ bk.out).mono ?_
   rintro e w' ⟨rfl, ⟨nd, rfl⟩⟩
   refine ⟨_, rfl, ?_⟩
   refine hK.out _ _ ⟨bc a 0, bc a 1, bc a 2, bc a 3, bc b 0, bc b 1, bc b 2, bc b 3⟩ (fun hHeld => ?_)
   clear hK K
   refine putS 23 ?_
   refine one_ (i := 6) (N := some 24) #[true, true, true, true, true, true, true, false, false, false] rfl rfl (Za9 HT_.out (by kernel_rfl)) (by decide) (fun K hK => ?_)
   refine value_ (w1 := ?_) (v := ?_) (by rfl) rfl ?_ ?_
   rotate_left 2
   ·go_simp
    constructor
    ·rfl
    ·rfl
   refine hK.out _ _ ⟨(Zb5 (Zaf a.out _) 0).trans rfl, (Zb5 (Zaf a.out _) 1).trans rfl, (Zb5 (Zaf a.out _) 2).trans rfl, (Zb5 (Zaf a.out _) 3).trans rfl, (Zb5 (Zaf b.out _) 0).trans rfl, (Zb5 (Zaf b.out _) 1).trans rfl, (Zb5 (Zaf b.out _) 2).trans rfl, (Zb5 (Zaf b.out _) 3).trans rfl⟩ (fun hHeld => ?_)
   clear hK K
   refine putS 24 ?_
   refine one_ (i := 7) (N := some 25) #[true, true, true, true, true, true, true, true, false, false] rfl rfl (Za9 HT_.out (by kernel_rfl)) (by decide) (fun K hK => ?_)
   refine qD Kd.bool (w0 := w) w.heap.size (by rfl) (.tmp 19) (.tmp 24) 46 4 (.bool false) 1 rfl Tryd.underlying46 info4 rfl (by decide) (by omega) u q aa [.bool aa] (fun k_ => (w.heap.size ≤ k_)) (fun _ => False) rfl rfl ?aP (fun _ hk => hk.elim) ?aF ?aO ?aB ?aS ?aL ?_
   (case aP => exact rfl)
   (case aB => exact (bW))
   (case aF => exact (fun k_ hk => (Nat.le_trans (Zag (bW)) hk)))
   (case aO => exact (rP r.out))
   (case aS => exact (Zag (bW)))
   (case aL => have := aQ.out; omega)
   intro bN bl ho hb hg hat
   rw [← aR.out] at ho
   replace D := mA (Kd.V_afterv (ok := (fun k_ => (J k_ ∨ w.heap.size ≤ k_) ∧ k_ ≠ E ∧ k_ ≠ l ∧ k_ ≠ c)) (by (with_reducible repeat (first | apply zX | apply zY | apply zV)); exact yS D.out (fun _ hk => ⟨⟨hk.1, ⟨hk.2.2.1, ⟨hk.2.2.2.1, hk.2.2.2.2⟩⟩⟩, hk.2.1⟩)) hg hat)
   replace B := mA (Kd.V_afterv (ok := (fun k_ => (J k_ ∨ w.heap.size ≤ k_) ∧ k_ ≠ E ∧ k_ ≠ l ∧ k_ ≠ c)) (by (with_reducible repeat (first | apply zX | apply zY | apply zV)); exact yS B.out (fun _ hk => ⟨⟨hk.1, ⟨hk.2.2.1, ⟨hk.2.2.2.1, hk.2.2.2.2⟩⟩⟩, hk.2.1⟩)) hg hat)
   replace b := mA (Zaq (g := E) (o := .cells #[.int .i64 m, .int .i64 s, .int .i64 I, .slice z j.length A] 34 (0, 0)) (bP b.out) hg (zO r.out b.out (by decide)))
   replace d := mA (Zaq (g := l) (o := .cells #[.int .i64 0, .int .i64 0, .slice none 0 0, .slice none 0 0] 48 (0, 0)) (bP d.out) hg (zO r.out d.out (by decide)))
   replace a := mA (Zaq (g := c) (o := .cells #[.int .i64 m, .int .i64 s, u, .slice z j.length A] 48 (0, 0)) (bP a.out) hg (zO r.out a.out (by decide)))
   replace HB := mA (hb)
   have af := mA (ho)
   clear r ho hb hg hat
   obtain ⟨ac, ad, aK⟩ := zJ af.out
   (first | subst aK | (injection aK with aV bm aW; have bn := aV.symm; have bo := aW.symm; clear aV bm aW; subst bn; subst bo))
   refine hK.out _ _ ⟨bc a 0, bc a 1, bc a 2, bc a 3, bc b 0, bc b 1, bc b 2, bc b 3⟩ (fun hHeld => ?_)
   clear hK K
   refine putS 25 ?_
   refine Zan (i := 8) (N := some 26) (Zai HT_.out (by kernel_rfl)) ?_
   refine last_ (i := 9) (N := none) #[true, true, true, true, true, true, true, true, true, true] rfl rfl (Za9 HT_.out (by kernel_rfl)) (by decide) (fun K hK => ?_)
   have bO : bl.cell? ⟨c, 2, none⟩ = some (u) := bc a 2
   have bD := Zab a.out 2
   have bg := x.out
   have bh := y.out
   have bi := M.out
   have bj := O.out
   refine skip_ (w1 := ?_) (by rfl) rfl ?_ ?_
   rotate_left
   ·go_simp
    rfl
   refine hK.out _ _ ?_
   clear hK K
   refine Zcz (Zct HT_.out (by kernel_rfl)) ?_
   try go_wp2
   go_roundg k1
   case measure => have := aU.out; omega
   case rel => exact ⟨(wrap64 (L + 1)), (U), (.slice ac U.length ad), (eW), H', ⟨by have := aU.out; omega⟩, ⟨by (with_reducible repeat (first | apply zX | apply zY | apply zV)); exact yS (xG (p := ⟨c, 2, none⟩) (yS D.out (fun k_ hk => (⟨hk, hk.1.2.2.2⟩ : _ ∧ k_ ≠ c))) (fun _ hk => hk.2) (.slice ac U.length ad)) (fun _ hk => ⟨hk.1.1.1, ⟨hk.1.2, ⟨hk.1.1.2.1, ⟨hk.1.1.2.2.1, hk.1.1.2.2.2⟩⟩⟩⟩)⟩, ⟨by (with_reducible repeat (first | apply zC | apply zD | apply zA)); exact zB (zQ (p := ⟨c, 2, none⟩) (yA af.out a.out (by decide)) (fun _ hk => hk.2) (.slice ac U.length ad)) (fun _ hk => hk.1)⟩, ⟨by (with_reducible repeat (first | apply zX | apply zY | apply zV)); exact yS (xG (p := ⟨c, 2, none⟩) (yS B.out (fun k_ hk => (⟨hk, hk.1.2.2.2⟩ : _ ∧ k_ ≠ c))) (fun _ hk => hk.2) (.slice ac U.length ad)) (fun _ hk => ⟨hk.1.1.1, ⟨hk.1.2, ⟨hk.1.1.2.1, ⟨hk.1.1.2.2.1, hk.1.1.2.2.2⟩⟩⟩⟩)⟩, ⟨by (with_reducible repeat (first | refine Zaj ?_ _ | refine Zad ?_ | refine Zaf ?_ _)); refine Za4 ?_ x.out _; exact bP b.out⟩, ⟨by (with_reducible repeat (first | refine Zaj ?_ _ | refine Zad ?_ | refine Zaf ?_ _)); refine Za4 ?_ y.out _; exact bP d.out⟩, ⟨by (with_reducible repeat (first | refine Zaj ?_ _ | refine Zad ?_ | refine Zaf ?_ _)); refine Za3 (cs := #[.int .i64 m, .int .i64 s, u, .slice z j.length A]) ?_ 2 _ rfl; exact bP a.out⟩, ⟨bW⟩⟩
def Zck.f (l0 : List Bool) : Option (List Bool) := if l0.length < 140737488355328 then some l0 else none
set_option maxHeartbeats 8000000 in
set_option maxRecDepth 100000 in
theorem Zck.calls (A0 : Option Addr) (c0 : Nat) (l0 : List Bool) (r : List Bool) (w : World) (a : Kd.C Kd.bool w A0 l0.length l0) (d : l0.length ≤ c0) (h : Zck.f l0 = some r) :
    Calls Tryd.prog 72 #[.slice A0 l0.length c0] w fun e w' => ∃ i : Value, e = .returned (i) ∧ Kd.R Kd.bool 4 w' w.heap.size (fun _ => True) i r ∧ Below w.heap.size w w' := by
  unfold Zck.f at h
  by_cases c2 : l0.length < 140737488355328; rotate_left
  · rw [if_neg c2] at h
    cases h
  rw [if_pos c2] at h
  have k := mA c2
  clear c2
  obtain rfl := Option.some.inj h
  clear h
  have hq := fun (W : World) => Lib.run_eql_slice_nil (P := Tryd.prog) W 46 4 A0 l0.length c0 0 0 Tryd.underlying46
  have m := mA a
  have q := mA d
  have HB := mA (Below.refl w.heap.size w)
  cases A0 with
  | none =>
    have hl : l0.length = 0 := by
      by_cases hn : 0 < l0.length
      · obtain ⟨_, e, _⟩ := a.2.2 hn
        cases e
      · omega
    have n : l0 = [] := List.eq_nil_of_length_eq_zero hl
    subst n
    clear hl a d
    have o : ∀ W, (binOp .eql 46 (.slice none 0 c0) (.slice none 0 0)).run Tryd.prog W = .ok (.bool true) W := hq
    clear hq
    go_enter Tryd.func72, Tryd.ntmps72
    go_wp2
    go_ret
    exact ⟨_, rfl, xH _ _ _ _ _, Below.refl _ _⟩
  | some ad =>
    clear a d
    have o : ∀ W, (binOp .eql 46 (.slice (some ad) l0.length c0) (.slice none 0 0)).run Tryd.prog W = .ok (.bool false) W := hq
    clear hq
    go_enter Tryd.func72, Tryd.ntmps72
    go_wp2_with (first | ((with_reducible refine Zap (N := 5) rfl ?_); refine yT Kd.bool _ 4 ?hg (N := 5) ?hd (xs := ([] : List Bool)) (inner := []) (ok := fun _ => True) (okp := fun _ => True) ?hr ?hp (fun _ hk => hk) trivial (Below.refl _ _) (Nat.le_refl _) (by simp) ?_; (case hd => rfl); (case hg => rfl); (case hr => first | (go_simp; done) | (go_simp; rfl)); (case hp => exact (Reps.none _ _)); intro l w3 j hb hg_ hnew_; clear hg_ hnew_; have c := mA (zP j (Zag (by repeat (first | (with_reducible first | exact HB.out | apply Zbk | apply Zbd | apply Za0) | exact HB.out)))); replace HB := mA (Zac (by repeat (first | (with_reducible first | exact HB.out | apply Zbk | apply Zbd | apply Za0) | exact HB.out)) hb); clear hb j) | ((with_reducible refine Zbl (b := .append) (xs := #[.tmp 5, .tmp 6]) rfl ?_); at_builtin; refine qA Kd.bool (w0 := w) w.heap.size rfl (.tmp 5) (.tmp 6) 46 4 (.bool false) 1 rfl Tryd.underlying46 info4 rfl (by decide) (by omega) l [] l0 _ _ _ (fun _ => True) (fun _ => False) rfl rfl ?aO ?aR (fun _ _ h => h) (fun _ h => h.elim) ?aF ?aB ?aS ?aL ?_; (case aR => repeat (first | exact (zF m.out HB.out) | (with_reducible refine yI ?_ _) | (with_reducible refine yK ?_ _) | (with_reducible refine yJ ?_))); (case aB => exact (by repeat (first | (with_reducible first | exact HB.out | apply Zbk | apply Zbd | apply Za0) | exact HB.out))); (case aF => exact (fun _ _ => trivial)); (case aO => exact (by (with_reducible repeat (first | apply zC | apply zD | apply zA)); exact c.out)); (case aS => exact (Zag (by repeat (first | (with_reducible first | exact HB.out | apply Zbk | apply Zbd | apply Za0) | exact HB.out)))); (case aL => have := k.out; simp only [List.length_nil]; omega); intro p w5 ho hb hg hat; rw [List.nil_append] at ho; replace HB := mA (hb); have g := mA (ho); clear c ho hb hg hat))
    go_ret
    exact ⟨_, rfl, by (with_reducible repeat (first | apply zC | apply zD | apply zA)); exact g.out, by repeat (first | (with_reducible first | exact HB.out | apply Zbk | apply Zbd | apply Za0) | exact HB.out)⟩
end Go.Proofs.YtgindgodfcfgkaaDoor.P
end M0
