import Derived.Test.YtjdkedmdeajmgaaDoorCFnExactNormalAutomaton11
section M0
namespace Go.Proofs.YtjdkedmdeajmgaaDoor.P
open Go.RowKit Go.Proofs.YtjdkedmdeajmgaaDoor.Sh Go.Proofs.YtjdkedmdeajmgaaDoorW.PrintWords Go.Proofs.YtjdkedmdeajmgaaDoorW.PrintLast Go.Proofs.YtjdkedmdeajmgaaDoorW.PrintMore
open Kd
attribute [local go_sem] Zcf Zch Zcv Zcu Zb6 Zb7 Zcg Zce   -- for this text's walks alone
set_option linter.unusedVariables false
set_option linter.unusedSimpArgs false
def Zcl.f (l0 : List Int) (a1 : Int) (a2 : Int) : Option (Int) := (Zc2.f a2).bind fun a => (if 0 ≤ a2 then (if a2 < (l0.length : Int) then (some (Go.bits .andNot .i64 (Go.bits .or .i64 a1 (wrap64 (a - 1))) (rd l0 a2))) else (none)) else (none))
set_option maxHeartbeats 8000000 in
set_option maxRecDepth 100000 in
theorem Zcl.calls (A0 : Option Addr) (c0 : Nat) (l0 : List Int) (a1 : Int) (a2 : Int) (r : Int) (w : World) (k : Kd.C (Kd.int .i64) w A0 l0.length l0) (l : l0.length ≤ c0) (h : Zcl.f l0 a1 a2 = some r) :
  Calls Tryd.prog 108 #[.slice A0 l0.length c0, .int .i64 a1, .int .i64 a2] w fun e w' => e = .returned (.int .i64 r) ∧ Zaw w w' := by
 have j := mA k
 have o := mA l
 clear k l
 unfold Zcl.f at h
 have H := h
 clear h
 obtain ⟨g, A4, H⟩ := bA H
 obtain ⟨m, H⟩ := gE H
 obtain ⟨n, H⟩ := gE H
 obtain rfl := oI H
 go_enter Tryd.func108, Tryd.ntmps108
 go_wp2_with (first | (go_at_call 103; (with_reducible refine (Zc2.calls a2 g _ A4.out).mono ?_); rintro e w' ⟨rfl, ⟨nd, rfl⟩⟩; (try first | exact dwD | exact dwE); have a : 0 ≤ (a2 : Int) := ofD; have b : a2 < (l0.length : Int) := ofD; obtain ⟨i, c, d⟩ := zO j.out a2 a b; cases c; replace a := eq_true a; replace b := eq_true b))
 repeat (go_quiet (first | (go_at_call 103; (with_reducible refine (Zc2.calls a2 g _ A4.out).mono ?_); rintro e w' ⟨rfl, ⟨nd, rfl⟩⟩; (try first | exact dwD | exact dwE); have a : 0 ≤ (a2 : Int) := ofD; have b : a2 < (l0.length : Int) := ofD; obtain ⟨i, c, d⟩ := zO j.out a2 a b; cases c; replace a := eq_true a; replace b := eq_true b)); try go_wp2_with (first | (go_at_call 103; (with_reducible refine (Zc2.calls a2 g _ A4.out).mono ?_); rintro e w' ⟨rfl, ⟨nd, rfl⟩⟩; (try first | exact dwD | exact dwE); have a : 0 ≤ (a2 : Int) := ofD; have b : a2 < (l0.length : Int) := ofD; obtain ⟨i, c, d⟩ := zO j.out a2 a b; cases c; replace a := eq_true a; replace b := eq_true b)))
 go_ret
 exact ⟨eW, by repeat (first | exact Zaw.refl _ | apply Zaw.step)⟩
/-- Only what the functions answer counts. -/
theorem exp64_fn (F F' : Zcw) (G G' : Zc7) (hF : F.fn = F'.fn) (hG : G.fn = G'.fn) : ∀ k, (∀ x0 x1 x4 x5 x6 x7 x8 x9 a, Zar.l0 k x0 x1 F G x4 x5 x6 x7 x8 x9 a = Zar.l0 k x0 x1 F' G' x4 x5 x6 x7 x8 x9 a) ∧ (∀ x0 x1 x4 x5 x6 x7 x8 x9 a b c d, Zar.l1 k x0 x1 F G x4 x5 x6 x7 x8 x9 a b c d = Zar.l1 k x0 x1 F' G' x4 x5 x6 x7 x8 x9 a b c d)
  | 0 => ⟨fun _ _ _ _ _ _ _ _ _ => by rw [Zar.l0, Zar.l0], fun _ _ _ _ _ _ _ _ _ _ _ _ => by rw [Zar.l1, Zar.l1]⟩
  | k + 1 => by
    obtain ⟨h0, h1⟩ := exp64_fn F F' G G' hF hG k
    refine ⟨fun _ _ _ _ _ _ _ _ _ => ?_, fun _ _ _ _ _ _ _ _ _ _ _ _ => ?_⟩
    · rw [Zar.l0, Zar.l0]
      simp only [h0, h1]
    · rw [Zar.l1, Zar.l1]
      simp only [Zcw.f, Zc7.f, hF, hG, h0, h1]
/-- The beginning of a normal form: what may not follow, and whether this letter may. -/
def nmStep (l : List Int) (s a : Int) : Option (Int × Bool) := (Zcl.f l s a).bind fun t => (impl_has.f s a).bind fun b => some (t, !b)
theorem nmStep_calls (gb : Nat) (A : Option Addr) (c : Nat) (l : List Int) (s a r1 : Int) (r2 : Bool) (w : World) (hb : w.cell? ⟨gb, 0, none⟩ = some (.slice A l.length c)) (hr : Kd.C (Kd.int .i64) w A l.length l) (hc : l.length ≤ c) (h : nmStep l s a = some (r1, r2)) :
    Calls Tryd.prog 107 #[.int .i64 s, .int .i64 a, .pointer (some ⟨gb, 0, none⟩)] w fun e w' => e = .returned (.tuple #[.int .i64 r1, .bool r2]) ∧ Below w.heap.size w w' := by
  have hu := Tryd.underlying137
  unfold nmStep at h
  obtain ⟨t, h1, h2⟩ := Option.bind_eq_some_iff.mp h
  obtain ⟨b, h3, h4⟩ := Option.bind_eq_some_iff.mp h2
  obtain ⟨rfl, rfl⟩ := Prod.mk.inj (Option.some.inj h4)
  have HF := Zac.mk (fun W (hw : Below w.heap.size w W) => Zcl.calls A c l s a t W (Kd.zQ hr hw) hc h1)
  have HH := Zac.mk (fun W => impl_has.calls s a b W h3)
  have HB := Zac.mk (Below.refl w.heap.size w)
  clear h h1 h2 h3 h4 hr hc
  go_enter Tryd.func107, Tryd.ntmps107
  go_wp2_with (first | (go_at_call 108; refine (HF.out _ HB.out).mono ?_; rintro e w1 ⟨rfl, m, rfl⟩) | (go_at_call 109; refine (HH.out _).mono ?_; rintro e w2 ⟨rfl, n, rfl⟩))
  go_ret2
  exact ⟨rfl, by repeat (first | apply Zbr | apply Za1 | exact Below.refl _ _)⟩
theorem nmFin_calls (x0 : Int) (w : World) : Calls Tryd.prog 110 #[.int .i64 x0] w fun e w' => e = .returned (.bool true) ∧ Below w.heap.size w w' := by
  go_enter Tryd.func110, Tryd.ntmps110
  go_wp2
  go_ret
  exact ⟨rfl, Below.refl _ _⟩
def nmG : Zc7 where
  g := 110
  cb := #[]
  enters := enters_of Tryd.func110 (by kernel_rfl) rfl
  fn := fun _ _ => some true
  fmono := fun _ _ => LeO.refl _
  ok := fun _ => True
  below := fun _ _ h _ => h
  fcalls := fun k x0 r1 w h _ => by
    obtain rfl := Option.some.inj h
    simpa using nmFin_calls x0 w
def nmC (gb : Nat) (A : Option Addr) (c : Nat) (l : List Int) : Zcw where
  g := 107
  cb := #[.pointer (some ⟨gb, 0, none⟩)]
  enters := enters_of Tryd.func107 (by kernel_rfl) rfl
  fn := fun _ s a => nmStep l s a
  fmono := fun _ _ _ => LeO.refl _
  ok := fun w => w.cell? ⟨gb, 0, none⟩ = some (.slice A l.length c) ∧ Kd.C (Kd.int .i64) w A l.length l ∧ l.length ≤ c
  below := fun w W h hb => ⟨pw_cell_below hb h.1, Kd.zQ h.2.1 hb, h.2.2⟩
  fcalls := fun k x0 x1 r1 r2 w h hok => by simpa using nmStep_calls gb A c l x0 x1 r1 r2 w hok.1 hok.2.1 hok.2.2 h
def Zc9.f (k : Nat) (a : Int) (b : List Int) : Option (Int × Int × List Bool × List (List Int)) := (Zar.f k a 0 1073741824 (nmC 0 none 0 b) nmG).bind fun r => some (r.1, r.2.1, r.2.2.1, r.2.2.2.1)
theorem nm_fn (k : Nat) (a0 : Int) (gb : Nat) (A : Option Addr) (c : Nat) (l : List Int) : Zar.f k a0 0 1073741824 (nmC gb A c l) nmG = Zar.f k a0 0 1073741824 (nmC 0 none 0 l) nmG := by
  unfold Zar.f
  exact (exp64_fn (nmC gb A c l) (nmC 0 none 0 l) nmG nmG rfl rfl k).1 _ _ _ _ _ _ _ _ _
theorem nmTies (x : Int) (A : Option Addr) (n c : Nat) (w : World) : Calls Tryd.prog 105 #[.agg #[.int .i64 x, .slice A n c]] w fun e w' => e = .returned (.slice A n c) ∧ Below w.heap.size w w' := by
  have hu := Tryd.underlying30
  have a := Tryd.underlying137
  go_enter Tryd.func105, Tryd.ntmps105
  go_wp2
  go_ret
  exact ⟨rfl, by repeat (first | apply Zbm | apply Zbr | apply Za1 | exact Below.refl _ _)⟩
set_option maxHeartbeats 4000000 in
set_option maxRecDepth 100000 in
theorem Zc9.calls (k : Nat) (b : Int) (c : Option Addr) (d : Nat) (a : List Int) (r1 : Int) (r2 : Int) (r3 : List Bool) (r4 : List (List Int)) (w : World) (q : Kd.C (Kd.int .i64) w c a.length a) (r : a.length ≤ d) (h : Zc9.f k b a = some (r1, r2, r3, r4)) :
    Calls Tryd.prog 50 #[.agg #[.int .i64 b, .slice c a.length d]] w fun e w' => ∃ B D : Value, e = .returned (.agg #[.int .i64 r1, .int .i64 r2, B, D]) ∧ Kd.R Kd.bool 4 w' w.heap.size (fun _ => True) B r3 ∧ Kd.S (Kd.slice 2 (Kd.int .i64)) 22 w' w.heap.size (fun _ => True) D r4 ∧ Below w.heap.size w w' := by
  have hu := Tryd.underlying30
  have X := Tryd.underlying137
  have Y := Tryd.underlying77
  obtain ⟨⟨q1, q2, q3, q4, q5⟩, hq, he⟩ := Option.bind_eq_some_iff.mp h
  simp only [Option.some.injEq, Prod.mk.injEq] at he
  obtain ⟨rfl, rfl, rfl, rfl⟩ := he
  have HQ := mA (fun gb => (nm_fn k b gb c d a).trans hq)
  have HR := mA q
  have HC := mA r
  have HB := mA (Below.refl w.heap.size w)
  clear h hq q r
  go_enter Tryd.func50, Tryd.ntmps50
  go_wp2_with (first
    | ((with_reducible refine Zat (N := 1) rfl ?_); refine boxS (N := 1) (cs := #[.int .i64 b, .slice c a.length d]) (t := 30) ?_; intro g1 E w1 hx hb; have B1 := mA hx; have G1 := geW (w := w) E; replace HB := mA (Zaf (bW) hb); clear hx hb E)
    | ((with_reducible refine Zat (N := 2) rfl ?_); refine boxS (N := 2) (cs := #[.int .i64 0, .int .i64 0, .slice none 0 0, .slice none 0 0]) (t := 77) ?_; intro g2 z w2 hx hb; have j := mA (boxNe z B1); have l := mA (blkB B1.out hb); have m := mA hx; have n := geW (w := w) z; have o := mA (Zaf (bW) hb); clear HB B1; have B2 := m; have G2 := n; have HB := o; have aa := j; have B1 := l; clear m n o j l hx hb z; obtain ⟨g, i⟩ := Zcj B1.out)
    | (go_at_call 105; refine (nmTies b c a.length d _).mono ?_; rintro e w3 ⟨rfl, hb⟩; replace B1 := mA (blkB B1.out hb); replace B2 := mA (blkB B2.out hb); replace HB := mA (Zaf (bW) hb); clear g i hb)
    | ((with_reducible refine Zat (N := 3) rfl ?_); refine boxS (N := 3) (cs := #[.slice none 0 0]) (t := 137) ?_; intro g3 s w4 hx hb; have G := mA (boxNe s B1); have I := mA (boxNe s B2); have j := mA (blkB B1.out hb); have l := mA (blkB B2.out hb); have m := mA hx; have n := geW (w := w) s; have o := mA (Zaf (bW) hb); clear HB B1 B2; have B3 := m; have G3 := n; have HB := o; have B1 := j; have B2 := l; have J := G; have W := I; clear m n o j l G I hx hb s; obtain ⟨g, i⟩ := Zcj B1.out; have u : w4.cell? ⟨g3, 0, none⟩ = some (.slice none 0 0) := bc B3 0; have v := Zae B3.out 0; have hne := J.out; have hne' : g3 ≠ g1 := fun e_ => J.out e_.symm)
    | fail)
  go_at_call 106
  refine (Zar.calls k b 0 1073741824 (nmC g3 c d a) nmG q1 q2 q3 q4 q5 _ (HQ.out g3) ⟨(Zbo (Zau B3.out 0 _ rfl) 0).trans rfl, zQ HR.out (Za9 HB.out G3.out), HC.out⟩ trivial).mono ?_
  rintro e w5 ⟨v2, v3, rfl, K, L, hb⟩
  replace B2 := mA (blkB (Zao (p := ⟨g3, 0, none⟩) B2.out W.out _) hb)
  have x := mA (zS K (Zaj (Za9 HB.out G3.out)))
  have y := mA (yL L (Zaj (Za9 HB.out G3.out)))
  replace HB := mA (Zaf (Za9 HB.out G3.out) hb)
  clear B1 B3 g i u v hne hne' K L hb
  obtain ⟨A5, c5, rfl⟩ := zP x.out
  obtain ⟨A6, c6, rfl⟩ := yE y.out
  obtain ⟨g, i, M, u⟩ := Zbl B2.out
  obtain ⟨O, P, T, v⟩ := frz4 B2.out
  go_wp2_with (first
    | ((with_reducible refine Zat (N := 4) rfl ?_); refine boxS (N := 4) (cs := #[.int .i64 0, .int .i64 0, .slice none 0 0, .slice none 0 0]) (t := 77) ?_; intro g4 A w6 hx hb; have B4 := mA hx; have G4 := geW (w := w) A; replace HB := mA (Zaf (bW) hb); have U := mA (boxNe A B2); replace B2 := mA (blkB B2.out hb); replace x := mA (zK (rP x.out) hb); replace y := mA (zW (rP y.out) hb); clear g i M u O P T v hx hb A; obtain ⟨g, i, M, u⟩ := Zbl B2.out; obtain ⟨O, P, T, v⟩ := frz4 B2.out; obtain ⟨ab, ac, ad, ae⟩ := Zbl B4.out; obtain ⟨af, ag, ah, ai⟩ := frz4 B4.out; have hne := U.out; have hne' := U.out.symm)
    | fail)
  refine bodyPost_ret (results_cell_row rfl _ _ g2 77 #[.int .i64 q1, .int .i64 q2, .slice A5 q3.length c5, .slice A6 q4.length c6] (0, 0) _ rfl (by refine Zau (cs := #[.int .i64 q1, .int .i64 q2, .slice A5 q3.length c5, .slice none 0 0]) ?_ 3 _ rfl; refine Zau (cs := #[.int .i64 q1, .int .i64 q2, .slice none 0 0, .slice none 0 0]) ?_ 2 _ rfl; refine Zau (cs := #[.int .i64 q1, .int .i64 0, .slice none 0 0, .slice none 0 0]) ?_ 1 _ rfl; refine Zau (cs := #[.int .i64 0, .int .i64 0, .slice none 0 0, .slice none 0 0]) ?_ 0 _ rfl; refine Zao ?_ hne _; refine Zao ?_ hne _; refine Zao ?_ hne _; refine Zao ?_ hne _; exact bP B2.out) Tryd.underlying77 rfl (by kernel_rfl)) rfl ?_
  exact ⟨_, _, eW, zB (ok' := fun _ => True) (zF (p := ⟨g2, 3, none⟩) (zF (p := ⟨g2, 2, none⟩) (zF (p := ⟨g2, 1, none⟩) (zF (p := ⟨g2, 0, none⟩) (zF (p := ⟨g4, 3, none⟩) (zF (p := ⟨g4, 2, none⟩) (zF (p := ⟨g4, 1, none⟩) (zF (p := ⟨g4, 0, none⟩) (zV (zV x.out B4.out (by decide)) B2.out (by decide)) (fun _ hk => hk.1.2) (.int .i64 q1)) (fun _ hk => hk.1.2) (.int .i64 q2)) (fun _ hk => hk.1.2) (.slice A5 q3.length c5)) (fun _ hk => hk.1.2) (.slice A6 q4.length c6)) (fun _ hk => hk.2) (.int .i64 q1)) (fun _ hk => hk.2) (.int .i64 q2)) (fun _ hk => hk.2) (.slice A5 q3.length c5)) (fun _ hk => hk.2) (.slice A6 q4.length c6)) (fun _ hk => trivial), zG (ok' := fun _ => True) (zE (p := ⟨g2, 3, none⟩) (zE (p := ⟨g2, 2, none⟩) (zE (p := ⟨g2, 1, none⟩) (zE (p := ⟨g2, 0, none⟩) (zE (p := ⟨g4, 3, none⟩) (zE (p := ⟨g4, 2, none⟩) (zE (p := ⟨g4, 1, none⟩) (zE (p := ⟨g4, 0, none⟩) (zX (zX y.out B4.out (by decide)) B2.out (by decide)) (fun _ hk => hk.1.2) (.int .i64 q1)) (fun _ hk => hk.1.2) (.int .i64 q2)) (fun _ hk => hk.1.2) (.slice A5 q3.length c5)) (fun _ hk => hk.1.2) (.slice A6 q4.length c6)) (fun _ hk => hk.2) (.int .i64 q1)) (fun _ hk => hk.2) (.int .i64 q2)) (fun _ hk => hk.2) (.slice A5 q3.length c5)) (fun _ hk => hk.2) (.slice A6 q4.length c6)) (fun _ hk => trivial), bW⟩
def Zb9.f (l0 : List Bool) : Option (List Bool) := if l0.length < 140737488355328 then some l0 else none
set_option maxHeartbeats 8000000 in
set_option maxRecDepth 100000 in
theorem Zb9.calls (A0 : Option Addr) (c0 : Nat) (l0 : List Bool) (r : List Bool) (w : World) (a : Kd.C Kd.bool w A0 l0.length l0) (d : l0.length ≤ c0) (h : Zb9.f l0 = some r) :
    Calls Tryd.prog 111 #[.slice A0 l0.length c0] w fun e w' => ∃ i : Value, e = .returned (i) ∧ Kd.R Kd.bool 4 w' w.heap.size (fun _ => True) i r ∧ Below w.heap.size w w' := by
  unfold Zb9.f at h
  by_cases c2 : l0.length < 140737488355328; rotate_left
  · rw [if_neg c2] at h
    cases h
  rw [if_pos c2] at h
  have k := mA c2
  clear c2
  obtain rfl := Option.some.inj h
  clear h
  have hq := fun (W : World) => Lib.run_eql_slice_nil (P := Tryd.prog) W 64 4 A0 l0.length c0 0 0 Tryd.underlying64
  have m := mA a
  have q := mA d
  have HB := mA (Below.refl w.heap.size w)
  cases A0 with
  | none =>
    have hl : l0.length = 0 := by
      by_cases hn : 0 < l0.length
      · obtain ⟨_, e, _⟩ := a.2.2 hn
        cases e
      · omega
    have n : l0 = [] := List.eq_nil_of_length_eq_zero hl
    subst n
    clear hl a d
    have o : ∀ W, (binOp .eql 64 (.slice none 0 c0) (.slice none 0 0)).run Tryd.prog W = .ok (.bool true) W := hq
    clear hq
    go_enter Tryd.func111, Tryd.ntmps111
    go_wp2
    go_ret
    exact ⟨_, rfl, yR _ _ _ _ _, Below.refl _ _⟩
  | some ad =>
    clear a d
    have o : ∀ W, (binOp .eql 64 (.slice (some ad) l0.length c0) (.slice none 0 0)).run Tryd.prog W = .ok (.bool false) W := hq
    clear hq
    go_enter Tryd.func111, Tryd.ntmps111
    go_wp2_with (first | ((with_reducible refine Zat (N := 5) rfl ?_); refine yP Kd.bool _ 4 ?hg (N := 5) ?hd (xs := ([] : List Bool)) (inner := []) (ok := fun _ => True) (okp := fun _ => True) ?hr ?hp (fun _ hk => hk) trivial (Below.refl _ _) (Nat.le_refl _) (by simp) ?_; (case hd => rfl); (case hg => rfl); (case hr => first | (go_simp; done) | (go_simp; rfl)); (case hp => exact (Reps.none _ _)); intro l w3 j hb hg_ hnew_; clear hg_ hnew_; have c := mA (zS j (Zaj (by repeat (first | (with_reducible first | exact HB.out | apply Zbm | apply Zbr | apply Za1) | exact HB.out)))); replace HB := mA (Zaf (by repeat (first | (with_reducible first | exact HB.out | apply Zbm | apply Zbr | apply Za1) | exact HB.out)) hb); clear hb j) | ((with_reducible refine Za6 (b := .append) (xs := #[.tmp 5, .tmp 6]) rfl ?_); at_builtin; refine xE Kd.bool (w0 := w) w.heap.size rfl (.tmp 5) (.tmp 6) 64 4 (.bool false) 1 rfl Tryd.underlying64 info4 rfl (by decide) (by omega) l [] l0 _ _ _ (fun _ => True) (fun _ => False) rfl rfl ?aO ?aR (fun _ _ h => h) (fun _ h => h.elim) ?aF ?aB ?aS ?aL ?_; (case aR => repeat (first | exact (zQ m.out HB.out) | (with_reducible refine Kd.C_alloc ?_ _) | (with_reducible refine Kd.C_drewN ?_ _) | (with_reducible refine Kd.C_drew ?_))); (case aB => exact (by repeat (first | (with_reducible first | exact HB.out | apply Zbm | apply Zbr | apply Za1) | exact HB.out))); (case aF => exact (fun _ _ => trivial)); (case aO => exact (by (with_reducible repeat (first | apply zC | apply zD | apply zA)); exact c.out)); (case aS => exact (Zaj (by repeat (first | (with_reducible first | exact HB.out | apply Zbm | apply Zbr | apply Za1) | exact HB.out)))); (case aL => have := k.out; simp only [List.length_nil]; omega); intro p w5 ho hb hg hat; rw [List.nil_append] at ho; replace HB := mA (hb); have g := mA (ho); clear c ho hb hg hat))
    go_ret
    exact ⟨_, rfl, by (with_reducible repeat (first | apply zC | apply zD | apply zA)); exact g.out, by repeat (first | (with_reducible first | exact HB.out | apply Zbm | apply Zbr | apply Za1) | exact HB.out)⟩
end Go.Proofs.YtjdkedmdeajmgaaDoor.P
end M0
