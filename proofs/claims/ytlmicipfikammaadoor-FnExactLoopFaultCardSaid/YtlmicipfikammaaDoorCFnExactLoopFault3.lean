import Derived.Test.YtlmicipfikammaaDoorCFnExactLoopFault2
set_option maxHeartbeats 8000000
set_option maxRecDepth 100000
section
namespace Go.Proofs.YtlmicipfikammaaDoor.P
open Go.RowKit Go.Proofs.YtlmicipfikammaaDoor.Sh Go.Proofs.YtlmicipfikammaaDoorW.PrintWords Go.Proofs.YtlmicipfikammaaDoorW.PrintLast Go.Proofs.YtlmicipfikammaaDoorW.PrintMore
open Kd
attribute [local go_sem] Zb8 Zcb Zcm Zcl Zb4 Zb3 Zb7 Zcd   -- for this text's walks alone
set_option linter.unusedVariables false
set_option linter.unusedSimpArgs false
def Zbx.f (l0 : List (List Int)) : Option (Int) := some (l0.length : Int)
theorem Zbx.calls (A0 : Option Addr) (c0 : Nat) (l0 : List (List Int)) (r : Int) (w : World) (a : Kd.C (Kd.slice 2 (Kd.int .i64)) w A0 l0.length l0) (b : l0.length ≤ c0) (h : Zbx.f l0 = some r) :
  Calls Tryd.prog 93 #[.slice A0 l0.length c0] w fun e w' => e = .returned (.int .i64 r) ∧ Zas w w' := by
 have c := mA a
 have d := mA b
 clear a b
 unfold Zbx.f at h
 have H := h
 clear h
 obtain rfl := oI H
 go_enter Tryd.func93, Tryd.ntmps93
 go_wp2
 go_ret
 exact ⟨eW, by repeat (first | exact Zas.refl _ | apply Zas.step)⟩
def Zbi.f (l0 : List Int) : Option (Int) := some (l0.length : Int)
theorem Zbi.calls (A0 : Option Addr) (c0 : Nat) (l0 : List Int) (r : Int) (w : World) (a : Kd.C (Kd.int .i64) w A0 l0.length l0) (b : l0.length ≤ c0) (h : Zbi.f l0 = some r) :
  Calls Tryd.prog 97 #[.slice A0 l0.length c0] w fun e w' => e = .returned (.int .i64 r) ∧ Zas w w' := by
 have c := mA a
 have d := mA b
 clear a b
 unfold Zbi.f at h
 have H := h
 clear h
 obtain rfl := oI H
 go_enter Tryd.func97, Tryd.ntmps97
 go_wp2
 go_ret
 exact ⟨eW, by repeat (first | exact Zas.refl _ | apply Zas.step)⟩
theorem rdL_get {l : List (List Int)} {k : Nat} (hk : k < l.length) : Zae l (k : Int) = l[k] := by
  unfold Zae; rw [List.getD_eq_getElem?_getD, Int.toNat_natCast, List.getElem?_eq_getElem hk]; rfl
set_option maxHeartbeats 2000000 in
theorem idxL (g : Nat) (lb : Array Value) (eg : ∀ args w, (callFunc g args).run Tryd.prog w = .ok (.enter g args) w) (p : List Int → Bool) (A : Option Addr) (c : Nat) (l : List (List Int)) (w : World) (hr : Kd.C (Kd.slice 2 (Kd.int .i64)) w A l.length l)
    (hp : ∀ (W : World) (x : List Int) (A' : Option Addr) (c' : Nat), x ∈ l → Below w.heap.size w W → Kd.C (Kd.int .i64) W A' x.length x → x.length ≤ c' → Calls Tryd.prog g (#[.slice A' x.length c'] ++ lb) W fun e w' => e = .returned (.bool (p x)) ∧ Below W.heap.size W w') :
    Calls Tryd.prog 128 #[.slice A l.length c, .func (.func g) #[] lb] w fun e w' => e = .returned (.int .i64 (fidx p l)) ∧ Below w.heap.size w w' := by
  have HR := Zab.mk hr
  have hlen : l.length ≤ 9223372036854775807 := hr.2.1
  clear hr
  have HP := Zab.mk hp
  clear hp
  go_enter Tryd.func128, Tryd.ntmps128
  go_wp2
  go_loopg [5, 8] l.length (fun gg _ s8 wr => ∃ kk : Nat, kk ≤ l.length ∧ l.length - kk ≤ gg ∧ s8 = .int .i64 kk ∧ Zab (Below w.heap.size w wr) ∧ Zab (∀ j (hj : j < kk) (hl : j < l.length), p l[j] = false))
  case atStart => exact ⟨0, Nat.zero_le _, by omega, rfl, ⟨Below.refl _ w⟩, ⟨fun j hj => absurd hj (Nat.not_lt_zero _)⟩⟩
  case round =>
    obtain ⟨kk, hkk, hg, rfl, BW, AS⟩ := hrel
    by_cases hlt : kk < l.length
    · have hltz : (kk : Int) < (l.length : Int) := by omega
      have a : 0 ≤ (kk : Int) := by omega
      obtain ⟨ad, A', c', e, hx, hlc, hin⟩ := at_L1 HR.out (kk : Int) a hltz
      cases e
      replace hx := (BW.out.cell (World.block_lt_of_cell? w _ hx)).trans hx
      rw [rdL_get hlt] at hx hlc hin
      rw [Int.toNat_natCast] at hx
      have hcall := HP.out wr l[kk] A' c' (List.getElem_mem hlt) BW.out (Kd.zC hin BW.out) hlc
      clear hlc hin
      cases hq : p l[kk] with
      | true =>
        rw [hq] at hcall
        have HQ := Zab.mk hq
        clear hq
        generalize hy : l[kk] = y at hx hcall
        clear hy
        go_wp2_with (go_at_fn g; refine hcall.mono ?_; rintro e w' ⟨rfl, hb'⟩)
        go_ret
        exact ⟨by rw [fidx_hit hlt HQ.out (fun j hj => AS.out j hj _)]; rfl, Zac BW.out hb'⟩
      | false =>
        rw [hq] at hcall
        have HQ := Zab.mk hq
        clear hq
        generalize hy : l[kk] = y at hx hcall
        clear hy
        go_wp2_with (go_at_fn g; refine hcall.mono ?_; rintro e w' ⟨rfl, hb'⟩)
        go_roundg (l.length - (kk + 1))
        case measure => omega
        case rel =>
          refine ⟨kk + 1, by omega, by omega, by go_num, ⟨Zac BW.out hb'⟩, ⟨fun j hj hl => ?_⟩⟩
          by_cases e : j = kk
          · subst e
            exact HQ.out
          · exact AS.out j (by omega) hl
    · have hltz : ¬ (kk : Int) < (l.length : Int) := by omega
      have hke : kk = l.length := by omega
      have HKE := Zab.mk hke
      clear hke
      go_wp2
      go_ret
      exact ⟨by rw [fidx_miss (fun j hj => AS.out j (by have := HKE.out; omega) hj)]; rfl, BW.out⟩
set_option maxHeartbeats 2000000 in
theorem conL (g : Nat) (lb : Array Value) (eg : ∀ args w, (callFunc g args).run Tryd.prog w = .ok (.enter g args) w) (p : List Int → Bool) (A : Option Addr) (c : Nat) (l : List (List Int)) (w : World) (hr : Kd.C (Kd.slice 2 (Kd.int .i64)) w A l.length l)
    (hp : ∀ (W : World) (x : List Int) (A' : Option Addr) (c' : Nat), x ∈ l → Below w.heap.size w W → Kd.C (Kd.int .i64) W A' x.length x → x.length ≤ c' → Calls Tryd.prog g (#[.slice A' x.length c'] ++ lb) W fun e w' => e = .returned (.bool (p x)) ∧ Below W.heap.size W w') :
    Calls Tryd.prog 95 #[.slice A l.length c, .func (.func g) #[] lb] w fun e w' => e = .returned (.bool (l.any p)) ∧ Below w.heap.size w w' := by
  have HI := Zab.mk (fun w0 (h0 : w0 = w) => h0 ▸ idxL g lb eg p A c l w hr hp)
  rw [← fidx_nonneg]
  clear hr hp
  go_enter Tryd.func95, Tryd.ntmps95
  go_wp2_with (go_at_call 128; refine (HI.out _ rfl).mono ?_; rintro e w' ⟨rfl, hb'⟩)
  go_ret
  exact ⟨rfl, hb'⟩
def badRow (L n : Int) (x : List Int) : Bool := !(decide ((x.length : Int) = L)) || !(x.all fun t => decide (-1 ≤ t) && decide (t ≤ n - 1))
set_option maxHeartbeats 2000000 in
theorem IsAutomaton_1 (L n : Int) (hn : 0 ≤ n ∧ n ≤ 9223372036854775807) (b1 b2 : Nat) (A : Option Addr) (c : Nat) (x : List Int) (w : World) (hr : Kd.C (Kd.int .i64) w A x.length x) (hc : x.length ≤ c) (h1 : w.cell? ⟨b1, 0, none⟩ = some (.int .i64 L)) (h2 : w.cell? ⟨b2, 0, none⟩ = some (.int .i64 n)) :
    Calls Tryd.prog 96 #[.slice A x.length c, .pointer (some ⟨b1, 0, none⟩), .pointer (some ⟨b2, 0, none⟩)] w fun e w' => e = .returned (.bool (badRow L n x)) ∧ Below w.heap.size w w' := by
  have HR := Zab.mk hr
  have HC := Zab.mk hc
  have hlen : x.length ≤ 9223372036854775807 := hr.2.1
  have hf : ∀ r, (x.all fun t => decide (-1 ≤ t) && decide (t ≤ n - 1)) = r → Zc5.f x (-1) (n - 1) = some r := fun r h => by unfold Zc5.f; rw [h]
  have HF := Zab.mk hf
  have hlf : Zbi.f x = some (x.length : Int) := rfl
  have HLF := Zab.mk hlf
  clear hr hc hf hlf
  obtain ⟨b, d⟩ := hn
  by_cases hL : (x.length : Int) = L
  · have hb : badRow L n x = !(x.all fun t => decide (-1 ≤ t) && decide (t ≤ n - 1)) := by unfold badRow; simp [hL]
    rw [hb]
    clear hb
    generalize (x.all fun t => decide (-1 ≤ t) && decide (t ≤ n - 1)) = r at HF ⊢
    have hne : ((x.length : Int) != L) = false := by simp [hL]
    have HL := Zab.mk hL
    clear hL
    have hA := fun W => Zc5.calls A c x (-1) (n - 1) r W
    have hA' := fun W (hb : Below w.heap.size w W) => hA W (Kd.zC HR.out hb) HC.out (HF.out _ rfl)
    clear hA
    have hlA := World.block_lt_of_cell? w _ h1
    have hlB := World.block_lt_of_cell? w _ h2
    have hwr : IntKind.i64.wrap (n - 1) = n - 1 := IntWalk.i64_in _ (by omega)
    go_enter Tryd.func96, Tryd.ntmps96
    go_wp2
    go_region_held3 (fun w' => w'.cell? ⟨b1, 0, none⟩ = some (.int .i64 L) ∧ w'.cell? ⟨b2, 0, none⟩ = some (.int .i64 n)) (go_keep)
      (first | (go_at_call 97; refine Calls.mono (Zbi.calls A c x _ _ (by repeat (first | (with_reducible refine Kd.yR ?_ _) | (with_reducible refine Kd.yQ ?_) | exact HR.out)) HC.out HLF.out) ?_; rintro e w' ⟨rfl, ⟨m, rfl⟩⟩) | (go_at_call 76; refine Calls.mono (hA' _ (by repeat (first | apply Za7 | apply Zbe | exact Below.refl _ _))) ?_; rintro e w1 ⟨rfl, a⟩; have k1 := (a.cell (p := ⟨b1, 0, none⟩) (by simpa using hlA)).trans (by simpa using h1); have k2 := (a.cell (p := ⟨b2, 0, none⟩) (by simpa using hlB)).trans (by simpa using h2)))
    go_wp2
    go_ret
    exact ⟨by simp, Zac (Za7 (Below.refl _ w) _) a⟩
  · have hb : badRow L n x = true := by unfold badRow; simp [hL]
    rw [hb]
    clear hb
    have hne : ((x.length : Int) != L) = true := by simpa using hL
    have HL := Zab.mk hL
    clear hL
    go_enter Tryd.func96, Tryd.ntmps96
    go_wp2
    go_quiet ((go_at_call 97; refine Calls.mono (Zbi.calls A c x _ _ (by repeat (first | (with_reducible refine Kd.yR ?_ _) | (with_reducible refine Kd.yQ ?_) | exact HR.out)) HC.out HLF.out) ?_; rintro e w' ⟨rfl, ⟨nd, rfl⟩⟩; (try first | exact ⟨rfl, _, World.drewN_drewN _ _ _⟩ | exact ⟨rfl, _, Eq.trans (World.drewN_drewN _ _ _) (congrArg (World.drewN _) (Nat.add_assoc _ _ _))⟩)))
    go_wp2
    go_ret
    exact ⟨rfl, by repeat (first | apply Za7 | apply Zbe | exact Below.refl _ _)⟩
def inRB (n lo hi : Int) : Bool := decide (lo ≤ n) && decide (n ≤ hi)
theorem inRange_some (n lo hi : Int) : Zbn.f n lo hi = some (inRB n lo hi) := by
  unfold Zbn.f inRB
  by_cases h : lo ≤ n <;> simp [h]
theorem inRange_any (n lo hi : Int) (w : World) : Calls Tryd.prog 94 #[.int .i64 n, .int .i64 lo, .int .i64 hi] w fun e w' => e = .returned (.bool (inRB n lo hi)) ∧ Zas w w' :=
  Zbn.calls n lo hi _ w (inRange_some n lo hi)
def maskB (F n : Int) : Bool := (Zc2.f F n).getD false
theorem isMask_some (F n : Int) : Zc2.f F n = some (maskB F n) := by
  unfold maskB Zc2.f
  rw [inRange_some]
  simp only [Option.bind_some]
  split
  · rename_i h
    unfold inRB at h
    simp only [Bool.and_eq_true, decide_eq_true_eq] at h
    unfold Zb5.f
    rw [if_pos h.1]
    simp only [Option.bind_some]
    rw [inRange_some]
    rfl
  · rfl
theorem isMask_any (F n : Int) (w : World) : Calls Tryd.prog 57 #[.int .i64 F, .int .i64 n] w fun e w' => e = .returned (.bool (maskB F n)) ∧ Zas w w' :=
  Zc2.calls F n _ w (isMask_some F n)
def isAut (L S F : Int) (N : List (List Int)) : Bool :=
  inRB L 0 8 && (inRB N.length 1 16 && (inRB S 0 ((N.length : Int) - 1) && (maskB F N.length && !(N.any (badRow L N.length)))))
def Zc9.f (a : Int) (b : Int) (c : Int) (d : List (List Int)) : Option Bool := some (isAut a b c d)
set_option maxHeartbeats 4000000 in
theorem Zc9.calls (b : Int) (g : Int) (i : Int) (c : Option Addr) (d : Nat) (a : List (List Int)) (r : Bool) (w : World) (j : Kd.C (Kd.slice 2 (Kd.int .i64)) w c a.length a) (k : a.length ≤ d) (h : Zc9.f b g i a = some r) :
    Calls Tryd.prog 56 #[.agg #[.int .i64 b, .int .i64 g, .int .i64 i, .slice c a.length d]] w fun e w' => e = .returned (.bool r) ∧ Below w.heap.size w w' := by
  have hlen : a.length ≤ 9223372036854775807 := j.2.1
  have HR := mA j
  have HCp := mA k
  clear j k
  have hrr : isAut b g i a = r := Option.some.inj h
  clear h
  unfold isAut at hrr
  have HLF := mA (show Zbx.f a = some (a.length : Int) from rfl)
  have hwr : IntKind.i64.wrap ((a.length : Int) - 1) = (a.length : Int) - 1 := IntWalk.i64_in _ (by omega)
  have HCN := fun W A (hA : Kd.C (Kd.slice 2 (Kd.int .i64)) W A a.length a) (b1 b2 : Nat) (h1 : W.cell? ⟨b1, 0, none⟩ = some (.int .i64 b)) (h2 : W.cell? ⟨b2, 0, none⟩ = some (.int .i64 a.length)) (n : b1 < W.heap.size) (o : b2 < W.heap.size) =>
    conL 96 #[.pointer (some ⟨b1, 0, none⟩), .pointer (some ⟨b2, 0, none⟩)] (enters_of Tryd.func96 (by kernel_rfl) rfl) (badRow b a.length) A d a W hA
      (fun W' x A' c' _ hb hC hc => IsAutomaton_1 b a.length ⟨by omega, by omega⟩ b1 b2 A' c' x W' hC hc ((hb.cell (p := ⟨b1, 0, none⟩) n).trans h1) ((hb.cell (p := ⟨b2, 0, none⟩) o).trans h2))
  generalize q : a.any (badRow b a.length) = q5 at HCN hrr
  clear q
  cases hq1 : inRB b 0 8
  · rw [hq1, Bool.false_and] at hrr
    subst hrr
    clear HCN
    go_enter Tryd.func56, Tryd.ntmps56
    go_wp2_with (first | (go_at_call 93; refine Calls.mono (Zbx.calls c d a _ _ (by repeat (first | (with_reducible refine yR ?_ _) | (with_reducible refine yQ ?_) | (with_reducible refine yP ?_ _) | exact HR.out)) HCp.out HLF.out) ?_; rintro e w' ⟨rfl, ⟨nd, rfl⟩⟩) | (go_at_call 94; refine Calls.mono (inRange_any _ _ _ _) ?_; rintro e w' ⟨rfl, ⟨l, rfl⟩⟩) | (go_at_call 57; refine Calls.mono (isMask_any _ _ _) ?_; rintro e w' ⟨rfl, ⟨m, rfl⟩⟩))
    go_ret
    exact ⟨rfl, by repeat (first | apply Zbf | apply Za7 | apply Zbe | exact Below.refl _ _)⟩
  rw [hq1, Bool.true_and] at hrr
  cases hq2 : inRB a.length 1 16
  · rw [hq2, Bool.false_and] at hrr
    subst hrr
    clear HCN
    go_enter Tryd.func56, Tryd.ntmps56
    go_wp2_with (first | (go_at_call 93; refine Calls.mono (Zbx.calls c d a _ _ (by repeat (first | (with_reducible refine yR ?_ _) | (with_reducible refine yQ ?_) | (with_reducible refine yP ?_ _) | exact HR.out)) HCp.out HLF.out) ?_; rintro e w' ⟨rfl, ⟨nd, rfl⟩⟩) | (go_at_call 94; refine Calls.mono (inRange_any _ _ _ _) ?_; rintro e w' ⟨rfl, ⟨l, rfl⟩⟩) | (go_at_call 57; refine Calls.mono (isMask_any _ _ _) ?_; rintro e w' ⟨rfl, ⟨m, rfl⟩⟩))
    go_ret
    exact ⟨rfl, by repeat (first | apply Zbf | apply Za7 | apply Zbe | exact Below.refl _ _)⟩
  rw [hq2, Bool.true_and] at hrr
  cases hq3 : inRB g 0 ((a.length : Int) - 1)
  · rw [hq3, Bool.false_and] at hrr
    subst hrr
    clear HCN
    go_enter Tryd.func56, Tryd.ntmps56
    go_wp2_with (first | (go_at_call 93; refine Calls.mono (Zbx.calls c d a _ _ (by repeat (first | (with_reducible refine yR ?_ _) | (with_reducible refine yQ ?_) | (with_reducible refine yP ?_ _) | exact HR.out)) HCp.out HLF.out) ?_; rintro e w' ⟨rfl, ⟨nd, rfl⟩⟩) | (go_at_call 94; refine Calls.mono (inRange_any _ _ _ _) ?_; rintro e w' ⟨rfl, ⟨l, rfl⟩⟩) | (go_at_call 57; refine Calls.mono (isMask_any _ _ _) ?_; rintro e w' ⟨rfl, ⟨m, rfl⟩⟩))
    go_ret
    exact ⟨rfl, by repeat (first | apply Zbf | apply Za7 | apply Zbe | exact Below.refl _ _)⟩
  rw [hq3, Bool.true_and] at hrr
  cases hq4 : maskB i a.length
  · rw [hq4, Bool.false_and] at hrr
    subst hrr
    clear HCN
    go_enter Tryd.func56, Tryd.ntmps56
    go_wp2_with (first | (go_at_call 93; refine Calls.mono (Zbx.calls c d a _ _ (by repeat (first | (with_reducible refine yR ?_ _) | (with_reducible refine yQ ?_) | (with_reducible refine yP ?_ _) | exact HR.out)) HCp.out HLF.out) ?_; rintro e w' ⟨rfl, ⟨nd, rfl⟩⟩) | (go_at_call 94; refine Calls.mono (inRange_any _ _ _ _) ?_; rintro e w' ⟨rfl, ⟨l, rfl⟩⟩) | (go_at_call 57; refine Calls.mono (isMask_any _ _ _) ?_; rintro e w' ⟨rfl, ⟨m, rfl⟩⟩))
    go_ret
    exact ⟨rfl, by repeat (first | apply Zbf | apply Za7 | apply Zbe | exact Below.refl _ _)⟩
  rw [hq4, Bool.true_and] at hrr
  subst hrr
  go_enter Tryd.func56, Tryd.ntmps56
  go_wp2_with (first | (go_at_call 93; refine Calls.mono (Zbx.calls c d a _ _ (by repeat (first | (with_reducible refine yR ?_ _) | (with_reducible refine yQ ?_) | (with_reducible refine yP ?_ _) | exact HR.out)) HCp.out HLF.out) ?_; rintro e w' ⟨rfl, ⟨nd, rfl⟩⟩) | (go_at_call 94; refine Calls.mono (inRange_any _ _ _ _) ?_; rintro e w' ⟨rfl, ⟨l, rfl⟩⟩) | (go_at_call 57; refine Calls.mono (isMask_any _ _ _) ?_; rintro e w' ⟨rfl, ⟨m, rfl⟩⟩))
  refine Calls.mono (HCN _ c (by repeat (first | (with_reducible refine yR ?_ _) | (with_reducible refine yQ ?_) | (with_reducible refine yP ?_ _) | exact HR.out)) w.heap.size (w.heap.size + 1) (by go_simp) (by go_simp) (by simp; omega) (by simp)) ?_
  rintro e w' ⟨rfl, hb⟩
  go_wp2
  go_ret
  exact ⟨by simp, Zac (by repeat (first | apply Zbf | apply Za7 | apply Zbe | exact Below.refl _ _)) hb⟩
def Zcz.f (a0 : Int) (a1 : Int) : Option (Bool) := if 0 ≤ a1 then (some ((Go.bits .and .i64 (shr .i64 a0 a1) 1) == 1)) else (none)
theorem Zcz.calls (a0 : Int) (a1 : Int) (r : Bool) (w : World) (h : Zcz.f a0 a1 = some r) :
  Calls Tryd.prog 77 #[.int .i64 a0, .int .i64 a1] w fun e w' => e = .returned (.bool r) ∧ Zas w w' := by
 unfold Zcz.f at h
 have H := h
 clear h
 by_cases c3 : 0 ≤ a1; rotate_left
 ·rw [if_neg c3] at H
  exact absurd H (by simp)
 rw [if_pos c3] at H
 have g := eq_true c3
 have i := dT c3
 clear c3
 obtain ⟨b, a⟩ : ∃ j_ : Int, (shr .i64 a0 a1) = j_ := ⟨_, rfl⟩
 replace H : (some ((Go.bits .and .i64 (b) 1) == 1)) = some r := by first | (rw [a] at H; exact H) | (simp only [a] at H ⊢; exact H)
 have c : (a0 / 2 ^ min a1.toNat 64) = b := a
 have d : a1 ≤ 64 → (a0 / 2 ^ a1.toNat) = b := shr_small a
 obtain rfl := oI H
 go_enter Tryd.func77, Tryd.ntmps77
 go_wp2
 go_ret
 exact ⟨by first | rfl | (simp; done) | (simp only [← a] <;> (first | rfl | simp)) | (simp [*]; done), by repeat (first | exact Zas.refl _ | apply Zas.step)⟩
def Zcv.f (l0 : List Int) : Option (Bool) := if (l0.length : Int) ≤ 24 then ((Zbi.f l0).bind fun a => ((Zb5.f a).bind fun b => ((Zc5.f l0 0 (wrap64 (b - 1))).bind fun c => (some c)))) else (some false)
theorem Zcv.calls (A0 : Option Addr) (c0 : Nat) (l0 : List Int) (r : Bool) (w : World) (c : Kd.C (Kd.int .i64) w A0 l0.length l0) (d : l0.length ≤ c0) (h : Zcv.f l0 = some r) :
  Calls Tryd.prog 119 #[.slice A0 l0.length c0] w fun e w' => e = .returned (.bool r) ∧ Below w.heap.size w w' := by
 have g := mA c
 have i := mA d
 clear c d
 have HB := mA (Below.refl w.heap.size w)
 unfold Zcv.f at h
 have H := h
 clear h
 by_cases c2 : (l0.length : Int) ≤ 24; rotate_left
 ·rw [if_neg c2] at H
  have j := dF c2
  have k : decide (l0.length ≤ 24) = false := decide_eq_false (by omega)
  clear c2
  obtain rfl := oI H
  go_enter Tryd.func119, Tryd.ntmps119
  go_wp2
  go_ret
  exact ⟨eW, bW⟩
 rw [if_pos c2] at H
 have j := dT c2
 have k : decide (l0.length ≤ 24) = true := decide_eq_true (by omega)
 clear c2
 obtain ⟨a, A3, H⟩ := bA H
 obtain ⟨b, A4, H⟩ := bA H
 obtain ⟨l, A5, H⟩ := bA H
 obtain rfl := oI H
 go_enter Tryd.func119, Tryd.ntmps119
 go_wp2_with (first | (go_at_call 97; (with_reducible refine (Zbi.calls _ _ l0 a _ ?side1 ?side2 A3.out).mono ?_); (case side1 => exact cP g.out); (case side2 => exact i.out); rintro e w' ⟨rfl, ⟨nd, rfl⟩⟩) | (go_at_call 88; (with_reducible refine (Zb5.calls a b _ A4.out).mono ?_); rintro e w' ⟨rfl, ⟨nd, rfl⟩⟩) | (go_at_call 76; (with_reducible refine (Zc5.calls _ _ l0 0 (wrap64 (b - 1)) l _ ?side1 ?side2 A5.out).mono ?_); (case side1 => exact cP g.out); (case side2 => exact i.out); rintro e w6 ⟨rfl, hb⟩; replace HB := mA (Zac (bW) hb); (try clear hb); (try clear hb2); (try clear hk); (try clear hi)))
 go_ret
 exact ⟨eW, bW⟩
def Zcp.f (a0 : Int) : Option (Int) := if 0 ≤ a0 ∧ a0 < 18446744073709551616 then some ((Lib.ctz 64 a0.toNat : Nat) : Int) else none
set_option maxHeartbeats 1000000 in
theorem tz_core (x k idx : Nat) (w : World) (a : ((x : Int) == 0) = false)
    (key : IntKind.u64.wrap (bits BinOp.and IntKind.u64 (x : Int) (IntKind.u64.wrap (-(x : Int))) * 285870213051353865) / 288230376151711744 = (idx : Int))
    (hi : idx < 64) (hk : k < 64) (hcell : w.cell? ⟨0, idx, none⟩ = some (.int .u8 k)) :
    Calls Tryd.prog 125 #[.int .u64 x] w fun e w' => e = .returned (.int .i64 k) ∧ w' = w := by
  go_enter Tryd.func125, Tryd.ntmps125
  go_wp2_with (simp only [key])
  go_ret
  exact ⟨rfl, rfl⟩
theorem tz_zero (w : World) : Calls Tryd.prog 125 #[.int .u64 0] w fun e w' => e = .returned (.int .i64 64) ∧ w' = w := by
  go_enter Tryd.func125, Tryd.ntmps125
  go_wp2
  go_ret
  exact ⟨rfl, rfl⟩
theorem Zcp.calls (a0 : Int) (r : Int) (w : World) (h : Zcp.f a0 = some r) (hTab : Tab w) :
    Calls Tryd.prog 125 #[.int .u64 a0] w fun e w' => e = .returned (.int .i64 r) ∧ Zas w w' := by
  unfold Zcp.f at h
  by_cases hc : 0 ≤ a0 ∧ a0 < 18446744073709551616; rotate_left
  · rw [if_neg hc] at h
    cases h
  rw [if_pos hc] at h
  obtain rfl := Option.some.inj h
  obtain ⟨x, rfl⟩ := Int.eq_ofNat_of_zero_le hc.1
  rw [Int.toNat_natCast]
  have hx : x < 18446744073709551616 := by omega
  by_cases a : x = 0
  · subst a
    refine (tz_zero w).mono ?_
    rintro e w' ⟨rfl, rfl⟩
    exact ⟨rfl, Zas.refl _⟩
  · obtain ⟨hlow, hk⟩ := Lib.lowest_bit 64 x a hx
    obtain ⟨hi, htab⟩ := Lib.deBruijn64_at _ hk
    have hcell := hTab _ hi
    rw [htab] at hcell
    refine (tz_core x _ _ w (by simp; omega) (tz64_key x _ hx a hlow) hi hk hcell).mono ?_
    rintro e w' ⟨rfl, rfl⟩
    refine ⟨?_, Zas.refl _⟩
    unfold Lib.ctz
    rw [if_neg a]
def Zc1.f (a0 : Int) : Option (Int) := (Zcp.f (IntKind.u64.wrap (a0))).bind fun a => (some a)
theorem Zc1.calls (a0 : Int) (r : Int) (w : World) (h : Zc1.f a0 = some r) (hTab : Tab w) :
  Calls Tryd.prog 89 #[.int .i64 a0] w fun e w' => e = .returned (.int .i64 r) ∧ Zas w w' := by
 have HTab := mA hTab
 clear hTab
 unfold Zc1.f at h
 have H := h
 clear h
 obtain ⟨a, A2, H⟩ := bA H
 obtain rfl := oI H
 go_enter Tryd.func89, Tryd.ntmps89
 go_wp2_with (first | ((with_reducible refine Zal (f := 125) rfl ?_); refine Zbc (some 5) Tryd.func125 #[.int .u64 (IntKind.u64.wrap (a0))] ?_; (with_reducible refine (Zcp.calls (IntKind.u64.wrap (a0)) a _ A2.out (tabW HTab.out)).mono ?_); rintro e w' ⟨rfl, ⟨nd, rfl⟩⟩; refine ⟨_, rfl, ?_⟩))
 go_ret
 exact ⟨eW, by repeat (first | exact Zas.refl _ | apply Zas.step)⟩
def Zbv.l0 : Nat → Int → List Int → Option (List Int)
 | 0, _, _ => none
 | k + 1, x0, x3 => if x0 = 0 then (some x3) else ((Zc1.f x0).bind fun a => (if x3.length < 17592186044416 then (Zbv.l0 k (Go.bits .and .i64 x0 (wrap64 (x0 - 1))) (x3 ++ [a])) else (none)))
def Zbv.f (k : Nat) (a0 : Int) : Option (List Int) := Zbv.l0 k a0 (([] : List Int))
theorem Zbv.calls (k : Nat) (a0 : Int) (r : List Int) (w : World) (h : Zbv.f k a0 = some r) (hTab : Tab w) :
  Calls Tryd.prog 80 #[.int .i64 a0] w fun e w' => ∃ q : Value, e = .returned (q) ∧ Kd.R (Kd.int .i64) 2 w' w.heap.size (fun _ => True) q r ∧ Below w.heap.size w w' := by
 have HTab := mA hTab
 clear hTab
 have HB := mA (Below.refl w.heap.size w)
 unfold Zbv.f at h
 have H := h
 clear h
 obtain ⟨n, d⟩ : ∃ y_ : List Int, y_ = (([] : List Int)) := ⟨_, rfl⟩
 replace H : (Zbv.l0 k a0 n) = some r := by rw [d]; with_reducible exact H
 have l := mA d
 clear d
 have H' := mA H
 clear H
 go_enter Tryd.func80, Tryd.ntmps80
 go_wp2_with (first | ((with_reducible refine Zan (N := 4) rfl ?_); refine yS (Kd.int .i64) _ 2 ?hg (N := 4) ?hd (xs := ([] : List Int)) (inner := []) (ok := fun _ => True) (okp := fun _ => True) ?hr ?hp (fun _ hk => hk) trivial (Below.refl _ _) (Nat.le_refl _) (by simp) ?_; (case hd => rfl); (case hg => rfl); (case hr => first | (go_simp; done) | (go_simp; rfl)); (case hp => exact (Reps.none _ _)); intro y w2 i hb hg_ hnew_; clear hg_ hnew_; (first | rw [← l.out] at i | (simp only [Int.reduceToNat] at i; rw [← l.out] at i)); have o := mA (zQ i (Zao (bW))); replace HB := mA (Zac (bW) hb); clear hb i))
 go_loopg [0, 3] k (fun kq v0 v3 w' => ∃ (a : Int) (c : List Int), v0 = .int .i64 a ∧ Zab (Zbv.l0 kq a c = some r) ∧ Zab (kq ≤ k) ∧ Zab (Kd.R (Kd.int .i64) 2 w' w.heap.size (fun _ => True) v3 c) ∧ Zab (Below w.heap.size w w'))
 case atStart => exact ⟨(a0), (n), (eW), H', ⟨Nat.le_refl _⟩, ⟨rP o.out⟩, ⟨bW⟩⟩
 case round =>
  clear H'
  obtain ⟨a, c, rfl, HA, s, j, HB⟩ := hrel
  cases gk with
  | zero => exact absurd HA.out (by simp [Zbv.l0])
  | succ k1 =>
   have H := HA.out
   clear HA
   simp only [Zbv.l0] at H
   by_cases c4 : a = 0
   ·rw [if_pos c4] at H
    have t : (a == 0) = true := beq_iff_eq.mpr c4
    have u : (a != 0) = false := bne_eq_false_iff_eq.mpr c4
    clear c4
    obtain rfl := oI H
    go_wp2
    go_ret
    exact ⟨_, eW, (rP j.out), bW⟩
   rw [if_neg c4] at H
   have t : (a == 0) = false := beq_eq_false_iff_ne.mpr c4
   have u : (a != 0) = true := bne_iff_ne.mpr c4
   obtain ⟨g, A5, H⟩ := bA H
   by_cases c6 : c.length < 17592186044416; rotate_left
   ·rw [if_neg c6] at H
    exact absurd H (by simp)
   rw [if_pos c6] at H
   have v := mA c6
   clear c6
   obtain ⟨x, m⟩ := nm ((c ++ [g]) : List Int)
   rw [← m.out] at H
   have H' := mA H
   clear H
   go_wp2_with (first | ((with_reducible refine Zal (f := 89) rfl ?_); refine Zbc (some 13) Tryd.func89 #[.int .i64 a] ?_; (with_reducible refine (Zc1.calls a g _ A5.out (tabW HTab.out)).mono ?_); rintro e w' ⟨rfl, ⟨nd, rfl⟩⟩; refine ⟨_, rfl, ?_⟩) | ((with_reducible refine Zch (b := .append) (xs := #[.tmp 11, .tmp 14]) rfl ?_); at_builtin; refine yO (Kd.int .i64) (w0 := w) w.heap.size rfl (.tmp 11) (.tmp 14) 22 2 (.int .i64 0) 8 rfl Tryd.underlying22 info2 rfl (by decide) (by omega) u3 c g [.int .i64 g] (fun _ => True) (fun _ => False) rfl rfl ?aP (fun _ hk => hk.elim) ?aF ?aO ?aB ?aS ?aL ?_; (case aP => exact rfl); (case aB => exact (bW)); (case aF => exact (fun _ _ => trivial)); (case aO => exact (rP j.out)); (case aS => exact (Zao (bW))); (case aL => have := v.out; omega); intro z w7 ho hb hg hat; rw [← m.out] at ho; replace HB := mA (hb); have p := mA (ho); clear j ho hb hg hat))
   go_roundg k1
   case measure => have := s.out; omega
   case rel => exact ⟨(Go.bits .and .i64 a (wrap64 (a - 1))), (x), (eW), H', ⟨by have := s.out; omega⟩, ⟨rP p.out⟩, ⟨bW⟩⟩
mutual
def Za1.l0 : Nat → List Int → List Int → Int → Int → Option (List Int)
 | 0, _, _, _, _ => none
 | k + 1, x3, b, d, a => if a < d then (if 0 ≤ a then (if a < (b.length : Int) then ((Zbv.f k (rd b a)).bind fun c => (Za1.l1 k x3 a b d a c (c.length : Int) 0)) else (none)) else (none)) else (some x3)
def Za1.l1 : Nat → List Int → Int → List Int → Int → Int → List Int → Int → Int → Option (List Int)
 | 0, _, _, _, _, _, _, _, _ => none
 | k + 1, x3, x4, c, d, e, b, g, a => if a < g then (if 0 ≤ a then (if a < (b.length : Int) then (if 0 ≤ (rd b a) then (if (rd b a) < (x3.length : Int) then ((Zb5.f x4).bind fun h => (Za1.l1 k (x3.set ((rd b a) : Int).toNat (Go.bits .or .i64 (rd x3 (rd b a)) h)) x4 c d e b g (wrap64 (a + 1)))) else (none)) else (none)) else (none)) else (none)) else (Za1.l0 k x3 c d (wrap64 (e + 1)))
end
def Za1.f (k : Nat) (l0 : List Int) : Option (List Int) := if 0 ≤ (l0.length : Int) then (if ((l0.length : Int) : Int).toNat ≤ 35184372088832 then (Za1.l0 k (List.replicate ((l0.length : Int) : Int).toNat 0) l0 (l0.length : Int) 0) else (none)) else (none)
def Za1.T8 : Bool × List (List Nat × List Nat) := (true, [([], []), ([], []), ([0, 1], [0, 1]), ([2], [2]), ([], []), ([4], [4]), ([3, 5], [3, 5]), ([0, 1, 0, 1, 2, 3, 4, 5, 6], [0, 1]), ([7, 6, 5, 0, 1, 2, 3, 4, 5, 6], [6, 7])])
def Za1.B8 : List Nat := [0, 0, 3, 7, 0, 16, 63, 127, 255]
theorem Za1.tab8 : rtab .any (opsOf Tryd.f120 8) = Za1.T8 := by kernel_rfl
theorem Za1.bits8 : waitsOk Za1.T8.2 Za1.B8 = true := by kernel_rfl
theorem Za1.calls (k : Nat) (A0 : Option Addr) (c0 : Nat) (l0 : List Int) (r : List Int) (w : World) (ag : Kd.C (Kd.int .i64) w A0 l0.length l0) (ah : l0.length ≤ c0) (h : Za1.f k l0 = some r) (hTab : Tab w) :
  Calls Tryd.prog 120 #[.slice A0 l0.length c0] w fun e w' => ∃ ai : Value, e = .returned (ai) ∧ Kd.R (Kd.int .i64) 2 w' w.heap.size (fun _ => True) ai r ∧ Below w.heap.size w w' := by
 have HTab := mA hTab
 clear hTab
 have aC := mA ag
 have aW := mA ah
 clear ag ah
 have HB := mA (Below.refl w.heap.size w)
 unfold Za1.f at h
 have H := h
 clear h
 by_cases c2 : 0 ≤ (l0.length : Int); rotate_left
 ·rw [if_neg c2] at H
  exact absurd H (by simp)
 rw [if_pos c2] at H
 have al := eq_true c2
 have am := dT c2
 clear c2
 by_cases c3 : ((l0.length : Int) : Int).toNat ≤ 35184372088832; rotate_left
 ·rw [if_neg c3] at H
  exact absurd H (by simp)
 rw [if_pos c3] at H
 have an := eq_true c3
 have ao := dT c3
 clear c3
 obtain ⟨ap, q⟩ := nm ((List.replicate ((l0.length : Int) : Int).toNat 0) : List Int)
 rw [← q.out] at H
 have H' := mA H
 clear H
 go_enter Tryd.func120, Tryd.ntmps120
 go_wp2_with (first | ((with_reducible refine Zan (N := 10) rfl ?_); refine yT (Kd.int .i64) _ 2 rfl (N := 10) rfl 22 _ _ rfl (l0.length : Int) rfl rfl Tryd.underlying22 (.int .i64 0) 8 info2 rfl (by decide) (by omega) 0 (ok := fun _ => True) (okp := fun _ => True) rfl (fun _ hk => hk) trivial (ofD) (Nat.le_trans (Nat.mul_le_mul_right _ (ofD : (l0.length : Int).toNat ≤ 35184372088832)) (by omega)) (Below.refl _ _) (Nat.le_refl _) ?_; intro z w4 y hb hg_ hnew_; clear hg_ hnew_; (first | rw [← q.out] at y | (simp only [Int.reduceToNat] at y; rw [← q.out] at y)); have ad := mA (zQ y (Zao (bW))); replace HB := mA (Zac (bW) hb); clear hb y))
 go_loopg [13] k (fun kq v13 w' => ∃ (s : List Int) (c : Int), v13 = .int .i64 c ∧ Zab (Za1.l0 kq s l0 (l0.length : Int) c = some r) ∧ Zab (kq ≤ k) ∧ Zab (Kd.R (Kd.int .i64) 2 w' w.heap.size (fun _ => True) z s) ∧ Zab (Below w.heap.size w w'))
 case atStart => exact ⟨(ap), (0), (eW), H', ⟨Nat.le_refl _⟩, ⟨rP ad.out⟩, ⟨bW⟩⟩
 case round =>
  clear H' al am an ao
  obtain ⟨s, c, rfl, HA, I, d, HB⟩ := hrel
  cases gk with
  | zero => exact absurd HA.out (by simp [Za1.l0])
  | succ k1 =>
   have H := HA.out
   clear HA
   simp only [Za1.l0] at H
   by_cases c6 : c < (l0.length : Int); rotate_left
   ·rw [if_neg c6] at H
    have O := dF c6
    clear c6
    obtain rfl := oI H
    go_wp2
    go_ret
    exact ⟨_, eW, (rP d.out), bW⟩
   rw [if_pos c6] at H
   have O := dT c6
   clear c6
   obtain ⟨aq, H⟩ := gE H
   obtain ⟨ar, H⟩ := gE H
   obtain ⟨b, A9, H⟩ := bA H
   have H' := mA H
   clear H
   have t : 0 ≤ (c : Int) := ofD
   have u : c < (l0.length : Int) := ofD
   obtain ⟨aJ, au, j⟩ := zK aC.out c t u
   cases au
   replace j := (HB.out.cell (wB w j)).trans j
   replace t := eq_true t
   replace u := eq_true u
   go_wp2_with (first | ((with_reducible refine Zal (f := 80) rfl ?_); refine Zbc (some 19) Tryd.func80 #[.int .i64 (rd l0 c)] ?_; (with_reducible refine (Zbv.calls k1 (rd l0 c) b _ A9.out (tabW HTab.out)).mono ?_); rintro e aX ⟨aP, rfl, P, hb⟩; refine ⟨_, rfl, ?_⟩; have J := mA (zQ (yM P (yF (rP d.out))) (Zao (bW))); replace d := mA (yL (rP d.out) (zY P) hb); replace HB := mA (Zac (bW) hb); (try clear hb); (try clear hb2); (try clear hk); (try clear hi); (try clear P); obtain ⟨T, U, av⟩ := zH J.out; subst av))
   go_loopg [21] k1 (fun kq v21 w' => ∃ (g : List Int) (a : Int), v21 = .int .i64 a ∧ Zab (Za1.l1 kq g c l0 (l0.length : Int) c b (b.length : Int) a = some r) ∧ Zab (kq ≤ k1) ∧ Zab (Kd.R (Kd.int .i64) 2 w' w.heap.size (fun k_ => some k_ ≠ ((.slice T b.length U) : Value).ownBlock) z g) ∧ Zab (Kd.R (Kd.int .i64) 2 w' w.heap.size (fun k_ => some k_ ≠ (z : Value).ownBlock) (.slice T b.length U) b) ∧ Zab (Below w.heap.size w w'))
   case atStart => exact ⟨(s), (0), (eW), H', ⟨Nat.le_refl _⟩, ⟨by (with_reducible repeat (first | apply zE | apply zD | apply zB)); exact zA d.out (fun _ hk => hk.2)⟩, ⟨by (with_reducible repeat (first | apply zE | apply zD | apply zB)); exact zA J.out (fun _ hk => hk.2)⟩, ⟨bW⟩⟩
   case round =>
    clear H' O aq ar j t u
    obtain ⟨g, a, rfl, HA, L, d, l, HB⟩ := hrel
    cases gk with
    | zero => exact absurd HA.out (by simp [Za1.l1])
    | succ k2 =>
     have H := HA.out
     clear HA
     simp only [Za1.l1] at H
     by_cases o : a < (b.length : Int); rotate_left
     ·rw [if_neg o] at H
      have ae := dF o
      clear o
      have H' := mA H
      clear H
      go_wp2
      go_roundg k2
      case measure => have := I.out; have := L.out; omega
      case rel => exact ⟨(g), (wrap64 (c + 1)), (eW), H', ⟨by have := I.out; have := L.out; omega⟩, ⟨by (with_reducible repeat (first | apply zE | apply zD | apply zB)); exact zA d.out (fun _ hk => trivial)⟩, ⟨bW⟩⟩
     rw [if_pos o] at H
     have ae := dT o
     clear o
     obtain ⟨aK, H⟩ := gE H
     obtain ⟨aL, H⟩ := gE H
     obtain ⟨aM, H⟩ := gE H
     obtain ⟨aN, H⟩ := gE H
     obtain ⟨x, aD, H⟩ := bA H
     obtain ⟨aw, M⟩ := nm ((g.set ((rd b a) : Int).toNat (Go.bits .or .i64 (rd g (rd b a)) x)) : List Int)
     rw [← M.out] at H
     have H' := mA H
     clear H
     have A : 0 ≤ (a : Int) := ofD
     have B : a < (b.length : Int) := ofD
     obtain ⟨aO, ax, aB⟩ := zK (zF l.out).2.2 a A B
     cases ax
     replace A := eq_true A
     replace B := eq_true B
     try go_wp2
     replace d := mA (zB d.out)
     replace l := mA (zB l.out)
     replace HB := mA (Zbe HB.out)
     obtain ⟨aQ, aR, W⟩ := zH d.out
     (first | subst W | (injection W with aj aE ak; have aF := aj.symm; have aG := ak.symm; clear aj aE ak; subst aF; subst aG))
     have D : 0 ≤ ((rd b a) : Int) := ofD
     have E : (rd b a) < (g.length : Int) := ofD
     obtain ⟨af, ay, m⟩ := zK (zF d.out).2.2 (rd b a) D E
     cases ay
     replace D := eq_true D
     replace E := eq_true E
     refine start_ (n := 9) (S := fun w' => w'.cell? (af.add ((rd b a)).toNat) = some (.int .i64 (rd g (rd b a)))) (ds := [8]) #[false, false, false, false, false, false, false, false, false] (by kernel_rfl) rfl rfl (m) (fun hHeld => ?_); refine Zc6 Za1.tab8 Za1.bits8 (fun HT_ HW_ => ?_)
     generalize wr.drew = w19 at d l HB m hHeld ⊢
     refine Za6 (i := 0) (N := some 25) (Zau HT_.out (by kernel_rfl)) ?_
     refine Za6 (i := 1) (N := some 26) (Zau HT_.out (by kernel_rfl)) ?_
     refine Za6 (i := 2) (N := some 27) (Zau HT_.out (by kernel_rfl)) ?_
     refine Za6 (i := 4) (N := some 29) (Zau HT_.out (by kernel_rfl)) ?_
     refine take_ (i := 3) (N := some 28) (v := ?_) (a' := ?_) #[true, true, true, true, true, false, false, false, false] rfl rfl (Zbw HT_.out HW_.out (by kernel_rfl)) (fun _ _ _ h => h) (Or.inl ⟨by rfl, ?_⟩) hHeld ?_ ?_
     rotate_left
     ·intro w' s0
      go_simp
      with_reducible rfl
     rotate_left
     ·simp only [Act.put, List.setIfInBounds_toArray, List.set_cons_zero, List.set_cons_succ, Zci, i32_w]
      rfl
     refine one_ (i := 5) (N := some 30) #[true, true, true, true, true, true, false, false, false] rfl rfl (Zcc HT_.out (by kernel_rfl)) (by decide) (fun K hK => ?_)
     refine goes_ Tryd.func88 (by kernel_rfl) rfl #[.int .i64 c] (by rfl) rfl rfl (by (try simp only [List.map_toArray, List.map_cons, List.map_nil]); first | done | rfl | (simp only [List.length_drop, List.length_take]; rfl)) ?_
     with_reducible refine (Zb5.calls c x _ aD.out).mono ?_
     rintro e w' ⟨rfl, ⟨nd, rfl⟩⟩
     refine ⟨_, rfl, ?_⟩
     have X : 0 ≤ ((rd b a) : Int) := ofD
     have Y : ((rd b a) : Int) < ((g.length : Int) : Int) := ofD
     obtain ⟨Z, aS, aa, ab, az, aT, ac⟩ := yC d.out (by omega)
     (first | cases aa | (injection aa with ea_ en_ ec_; (first | subst ea_ | (injection ea_ with ea_; subst ea_)); subst ec_; clear en_))
     have aU := mA ab
     have aV := mA ac
     clear ab az ac
     (first | simp only [Zb1] at m | skip)
     obtain ⟨aH, aI⟩ := zI 0 d.out ((rd b a) : Int) X Y
     replace X := eq_true X
     replace Y := eq_true Y
     have G := Kd.R_putn d.out ((rd b a) : Int) (Go.bits .or .i64 (rd g (rd b a)) x)
     rw [← M.out] at G
     have aA := mA G
     clear G
     refine hK.out _ _ (hHeld) (fun hHeld => ?_)
     clear hK K
     refine putS 30 ?_
     refine Za6 (i := 6) (N := some 31) (Zau HT_.out (by kernel_rfl)) ?_
     refine Za6 (i := 7) (N := some 32) (Zau HT_.out (by kernel_rfl)) ?_
     refine last_ (i := 8) (N := none) #[true, true, true, true, true, true, true, true, true] rfl rfl (Zcc HT_.out (by kernel_rfl)) (by decide) (fun K hK => ?_)
     refine skip_ (w1 := ?_) (by rfl) rfl ?_ ?_
     rotate_left
     ·go_simp
      rfl
     refine hK.out _ _ ?_
     clear hK K
     refine done_ (done_of HT_.out (by kernel_rfl)) ?_
     try go_wp2
     go_roundg k2
     case measure => have := I.out; have := L.out; omega
     case rel => exact ⟨(aw), (wrap64 (a + 1)), (eW), H', ⟨by have := I.out; have := L.out; omega⟩, ⟨rP aA.out⟩, ⟨by (with_reducible repeat (first | apply zE | apply zD | apply zB)); exact zA (zJ (p := ⟨Z, ((rd b a) : Int).toNat, none⟩) (zA l.out (fun k_ hk => (⟨hk, fun e_ => hk (by rw [e_]; rfl)⟩ : _ ∧ k_ ≠ Z))) (fun _ hk => hk.2) (.int .i64 (Go.bits .or .i64 (rd g (rd b a)) x))) (fun _ hk => hk.1)⟩, ⟨bW⟩⟩
def Zbd.l0 : Nat → Int → Int → Int → Int → Int → List (List Int) → Int → Int → List Bool → List (List Int) → Option (Int × Int × List Bool × (List (List Int)))
 | 0, _, _, _, _, _, _, _, _, _, _ => none
 | k + 1, l, j, g, h, b, i, c, d, a, e => if j < l then ((Zcz.f b j).bind fun m => (if a.length < 140737488355328 then (Zbd.l0 k l (wrap64 (j + 1)) g h b i c d (a ++ [m]) e) else (none))) else (some (c, d, a, e))
def Zbd.f (k : Nat) (b : Int) (c : Int) (d : Int) (a : List (List Int)) : Option (Int × Int × List Bool × (List (List Int))) := Zbd.l0 k (a.length : Int) 0 b c d a b c ([] : List Bool) a
def Zbd.T5 : Bool × List (List Nat × List Nat) := (true, [([], []), ([0], [0]), ([], []), ([2], [2]), ([], []), ([3, 4], [3, 4]), ([5], [5]), ([1, 6, 5], [1, 6]), ([0, 1, 2, 3, 4, 5, 6, 7], []), ([8, 7, 7, 0, 1, 2, 3, 4, 5, 6, 7], [7, 8])])
def Zbd.B5 : List Nat := [0, 1, 0, 4, 0, 28, 60, 127, 255, 511]
theorem Zbd.tab5 : rtab .any (opsOf Tryd.f43 5) = Zbd.T5 := by kernel_rfl
theorem Zbd.bits5 : waitsOk Zbd.T5.2 Zbd.B5 = true := by kernel_rfl
theorem Zbd.calls (k : Nat) (m : Int) (s : Int) (I : Int) (J : Nat → Prop) (z : Option Addr) (A : Nat) (j : List (List Int)) (r1 : Int) (r2 : Int) (r3 : List Bool) (r4 : List (List Int)) (w : World) (aJ : Kd.V (Kd.slice 2 (Kd.int .i64)) 22 w w.heap.size (fun k_ => J k_) (.slice z j.length A) j) (h : Zbd.f k m s I j = some (r1, r2, r3, r4)) :
  Calls Tryd.prog 43 #[.agg #[.int .i64 m, .int .i64 s, .int .i64 I, .slice z j.length A]] w fun e w' => ∃ an aN : Value, e = .returned (.agg #[.int .i64 r1, .int .i64 r2, an, aN]) ∧ Kd.R Kd.bool 4 w' w.heap.size (fun k_ => (w.heap.size ≤ k_)) an r3 ∧ Kd.V (Kd.slice 2 (Kd.int .i64)) 22 w' w.heap.size (fun k_ => (J k_ ∨ w.heap.size ≤ k_) ∧ some k_ ≠ (an : Value).ownBlock) aN r4 ∧ Below w.heap.size w w' := by
 have bC := Tryd.underlying34
 have bD := Tryd.underlying66
 have G := mA (show Kd.V (Kd.slice 2 (Kd.int .i64)) 22 w w.heap.size (fun k_ => (J k_ ∨ w.heap.size ≤ k_)) (.slice z j.length A) j from zU aJ (fun k_ hk => .inl hk))
 have HB := mA (Below.refl w.heap.size w)
 unfold Zbd.f at h
 have H := h
 clear h
 have H' := mA H
 clear H
 go_enter Tryd.func43, Tryd.ntmps43
 go_wp2_with (first | ((with_reducible refine Zan (N := 1) rfl ?_); refine boxS (N := 1) (cs := #[.int .i64 m, .int .i64 s, .int .i64 I, .slice z j.length A]) (t := 34) ?_; intro E hg w2 hbox hb; replace G := mA (yJ (yV (by (with_reducible repeat (first | apply zN | apply zO | apply zL)); exact G.out) E (Nat.le_of_eq hg.symm)) hb); have b := mA (hbox); have bm := geW (w := w) hg; have bn := geW (w := w) hg; replace HB := mA (Zac (bW) hb); clear hb hbox hg) | ((with_reducible refine Zan (N := 2) rfl ?_); refine boxS (N := 2) (cs := #[.int .i64 0, .int .i64 0, .slice none 0 0, .slice none 0 0]) (t := 66) ?_; intro l hg w3 hbox hb; replace G := mA (yJ (yV (by (with_reducible repeat (first | apply zN | apply zO | apply zL)); exact G.out) l (Nat.le_of_eq hg.symm)) hb); have d := mA (hbox); have bo := geW (w := w) hg; have bp := geW (w := w) hg; replace HB := mA (Zac (bW) hb); have P := mA (neB hg b); have T := mA (neC hg b); replace b := mA (blkB b.out hb); clear hb hbox hg; have bE := P.out; have bF := T.out; obtain ⟨ao, ap, aq, ar⟩ := Zbk b.out; obtain ⟨au, av, aw, ax⟩ := frz4 b.out) | ((with_reducible refine Zan (N := 3) rfl ?_); refine boxS (N := 3) (cs := #[.int .i64 0, .int .i64 0, .slice none 0 0, .slice none 0 0]) (t := 66) ?_; intro c hg w6 hbox hb; replace G := mA (yJ (yV (by (with_reducible repeat (first | apply zN | apply zO | apply zL)); exact G.out) c (Nat.le_of_eq hg.symm)) hb); have a := mA (hbox); have bq := geW (w := w) hg; have br := geW (w := w) hg; replace HB := mA (Zac (bW) hb); have x := mA (neB hg b); have M := mA (neC hg b); replace b := mA (blkB b.out hb); have y := mA (neB hg d); have O := mA (neC hg d); replace d := mA (blkB d.out hb); clear hb hbox hg; have bG := M.out; have bH := x.out; have bI := O.out; have bJ := y.out; obtain ⟨ay, az, aA, aC⟩ := Zbk a.out; obtain ⟨aD, aE, aG, aH⟩ := frz4 a.out; obtain ⟨af, ag, ah, ai⟩ := Zbk b.out; obtain ⟨aj, ak, al, am⟩ := frz4 b.out))
 go_loopg [15] k (fun kq v15 w' => ∃ (L : Int) (q : List Bool) (u : Value), v15 = .int .i64 L ∧ Zab (Zbd.l0 kq (j.length : Int) L m s I j m s q j = some (r1, r2, r3, r4)) ∧ Zab (kq ≤ k) ∧ Zab (Kd.V (Kd.slice 2 (Kd.int .i64)) 22 w' w.heap.size (fun k_ => (J k_ ∨ w.heap.size ≤ k_) ∧ some k_ ≠ (u : Value).ownBlock ∧ k_ ≠ E ∧ k_ ≠ l ∧ k_ ≠ c) (.slice z j.length A) j) ∧ Zab (Kd.R Kd.bool 4 w' w.heap.size (fun k_ => (w.heap.size ≤ k_)) u q) ∧ Zab (Kd.V (Kd.slice 2 (Kd.int .i64)) 22 w' w.heap.size (fun k_ => (J k_ ∨ w.heap.size ≤ k_) ∧ some k_ ≠ (u : Value).ownBlock ∧ k_ ≠ E ∧ k_ ≠ l ∧ k_ ≠ c) (.slice z j.length A) j) ∧ Zab (w'.heap[E]? = some (.cells #[.int .i64 m, .int .i64 s, .int .i64 I, (.slice z j.length A)] 34 (0, 0))) ∧ Zab (w'.heap[l]? = some (.cells #[.int .i64 0, .int .i64 0, (.slice none 0 0), (.slice none 0 0)] 66 (0, 0))) ∧ Zab (w'.heap[c]? = some (.cells #[.int .i64 m, .int .i64 s, u, (.slice z j.length A)] 66 (0, 0))) ∧ Zab (Below w.heap.size w w'))
 case atStart => exact ⟨(0), (([] : List Bool)), (.slice none 0 0), (eW), H', ⟨Nat.le_refl _⟩, ⟨by (with_reducible repeat (first | apply zN | apply zO | apply zL)); exact zU (zX (p := ⟨c, 3, none⟩) (zX (p := ⟨c, 2, none⟩) (zX (p := ⟨c, 1, none⟩) (zX (p := ⟨c, 0, none⟩) (zU G.out (fun k_ hk => (⟨hk, hk.2⟩ : _ ∧ k_ ≠ c))) (fun _ hk => hk.2) (.int .i64 m)) (fun _ hk => hk.2) (.int .i64 s)) (fun _ hk => hk.2) (.slice none 0 0)) (fun _ hk => hk.2) (.slice z j.length A)) (fun _ hk => ⟨hk.1.1.1.1, ⟨(by simp [Value.ownBlock]), ⟨hk.1.1.1.2, ⟨hk.1.1.2, hk.1.2⟩⟩⟩⟩)⟩, ⟨by first | exact Kd.R_nil _ _ _ _ _ | exact Kd.N_nil _ _ _ _ _ | exact Kd.V_nil _ _ _ _ _ | exact Kd.Q_nil _ _ _ _ _ | exact Kd.S_nil _ _ _ _ _⟩, ⟨by (with_reducible repeat (first | apply zN | apply zO | apply zL)); exact zU (zX (p := ⟨c, 3, none⟩) (zX (p := ⟨c, 2, none⟩) (zX (p := ⟨c, 1, none⟩) (zX (p := ⟨c, 0, none⟩) (zU G.out (fun k_ hk => (⟨hk, hk.2⟩ : _ ∧ k_ ≠ c))) (fun _ hk => hk.2) (.int .i64 m)) (fun _ hk => hk.2) (.int .i64 s)) (fun _ hk => hk.2) (.slice none 0 0)) (fun _ hk => hk.2) (.slice z j.length A)) (fun _ hk => ⟨hk.1.1.1.1, ⟨(by simp [Value.ownBlock]), ⟨hk.1.1.1.2, ⟨hk.1.1.2, hk.1.2⟩⟩⟩⟩)⟩, ⟨by (with_reducible repeat (first | refine Zai ?_ _ | refine Zah ?_ | refine Zag ?_ _)); refine Zbb ?_ x.out _; (with_reducible repeat (first | refine Zai ?_ _ | refine Zah ?_ | refine Zag ?_ _)); refine Zbb ?_ x.out _; (with_reducible repeat (first | refine Zai ?_ _ | refine Zah ?_ | refine Zag ?_ _)); refine Zbb ?_ x.out _; (with_reducible repeat (first | refine Zai ?_ _ | refine Zah ?_ | refine Zag ?_ _)); refine Zbb ?_ x.out _; exact bP b.out⟩, ⟨by (with_reducible repeat (first | refine Zai ?_ _ | refine Zah ?_ | refine Zag ?_ _)); refine Zbb ?_ y.out _; (with_reducible repeat (first | refine Zai ?_ _ | refine Zah ?_ | refine Zag ?_ _)); refine Zbb ?_ y.out _; (with_reducible repeat (first | refine Zai ?_ _ | refine Zah ?_ | refine Zag ?_ _)); refine Zbb ?_ y.out _; (with_reducible repeat (first | refine Zai ?_ _ | refine Zah ?_ | refine Zag ?_ _)); refine Zbb ?_ y.out _; exact bP d.out⟩, ⟨by (with_reducible repeat (first | refine Zai ?_ _ | refine Zah ?_ | refine Zag ?_ _)); refine Zbj (cs := #[.int .i64 m, .int .i64 s, .slice none 0 0, .slice none 0 0]) ?_ 3 _ rfl; (with_reducible repeat (first | refine Zai ?_ _ | refine Zah ?_ | refine Zag ?_ _)); refine Zbj (cs := #[.int .i64 m, .int .i64 s, .slice none 0 0, .slice none 0 0]) ?_ 2 _ rfl; (with_reducible repeat (first | refine Zai ?_ _ | refine Zah ?_ | refine Zag ?_ _)); refine Zbj (cs := #[.int .i64 m, .int .i64 0, .slice none 0 0, .slice none 0 0]) ?_ 1 _ rfl; (with_reducible repeat (first | refine Zai ?_ _ | refine Zah ?_ | refine Zag ?_ _)); refine Zbj (cs := #[.int .i64 0, .int .i64 0, .slice none 0 0, .slice none 0 0]) ?_ 0 _ rfl; exact bP a.out⟩, ⟨bW⟩⟩
 case round =>
  clear H' af ag ah ai ao ap aq ar ay az aA aC aj ak al am au av aw ax aD aE aG aH
  obtain ⟨L, q, u, rfl, HA, aQ, D, r, B, b, d, a, HB⟩ := hrel
  cases gk with
  | zero => exact absurd HA.out (by simp [Zbd.l0])
  | succ k1 =>
   have H := HA.out
   clear HA
   simp only [Zbd.l0] at H
   by_cases W : L < (j.length : Int); rotate_left
   ·rw [if_neg W] at H
    have aK := dF W
    clear W
    simp only [Option.some.injEq, Prod.mk.injEq] at H
    obtain ⟨rfl, rfl, rfl, rfl⟩ := H
    have bs := M.out
    have bu := x.out
    have bv := O.out
    have bw := y.out
    have aV : wr.cell? ⟨c, 0, none⟩ = some (.int .i64 m) := bc a 0
    have aW : wr.cell? ⟨c, 1, none⟩ = some (.int .i64 s) := bc a 1
    have aX : wr.cell? ⟨c, 2, none⟩ = some (u) := bc a 2
    have aY : wr.cell? ⟨c, 3, none⟩ = some (.slice z j.length A) := bc a 3
    have aZ := Zaa a.out 0
    have a0 := Zaa a.out 1
    have a1 := Zaa a.out 2
    have a2 := Zaa a.out 3
    have bx := T.out
    have bz := P.out
    have a3 : wr.cell? ⟨l, 0, none⟩ = some (.int .i64 0) := bc d 0
    have a4 : wr.cell? ⟨l, 1, none⟩ = some (.int .i64 0) := bc d 1
    have a5 : wr.cell? ⟨l, 2, none⟩ = some (.slice none 0 0) := bc d 2
    have a6 : wr.cell? ⟨l, 3, none⟩ = some (.slice none 0 0) := bc d 3
    have a7 := Zaa d.out 0
    have a8 := Zaa d.out 1
    have a9 := Zaa d.out 2
    have ba := Zaa d.out 3
    obtain ⟨X, Y, aU⟩ := zH r.out
    subst aU
    go_wp2
    refine bodyPost_ret (results_cell_row rfl _ _ l 66 #[.int .i64 m, .int .i64 s, .slice X q.length Y, .slice z j.length A] (0, 0) _ rfl (by (with_reducible repeat (first | refine Zai ?_ _ | refine Zah ?_ | refine Zag ?_ _)); refine Zbj (cs := #[.int .i64 m, .int .i64 s, .slice X q.length Y, .slice none 0 0]) ?_ 3 _ rfl; (with_reducible repeat (first | refine Zai ?_ _ | refine Zah ?_ | refine Zag ?_ _)); refine Zbj (cs := #[.int .i64 m, .int .i64 s, .slice none 0 0, .slice none 0 0]) ?_ 2 _ rfl; (with_reducible repeat (first | refine Zai ?_ _ | refine Zah ?_ | refine Zag ?_ _)); refine Zbj (cs := #[.int .i64 m, .int .i64 0, .slice none 0 0, .slice none 0 0]) ?_ 1 _ rfl; (with_reducible repeat (first | refine Zai ?_ _ | refine Zah ?_ | refine Zag ?_ _)); refine Zbj (cs := #[.int .i64 0, .int .i64 0, .slice none 0 0, .slice none 0 0]) ?_ 0 _ rfl; exact bP d.out) Tryd.underlying66 rfl (by kernel_rfl)) rfl ?_
    exact ⟨_, _, eW, by (with_reducible repeat (first | apply zE | apply zD | apply zB)); exact zA (zJ (p := ⟨l, 3, none⟩) (zJ (p := ⟨l, 2, none⟩) (zJ (p := ⟨l, 1, none⟩) (zJ (p := ⟨l, 0, none⟩) (yE r.out d.out (by decide)) (fun _ hk => hk.2) (.int .i64 m)) (fun _ hk => hk.2) (.int .i64 s)) (fun _ hk => hk.2) (.slice X q.length Y)) (fun _ hk => hk.2) (.slice z j.length A)) (fun _ hk => hk.1), by (with_reducible repeat (first | apply zN | apply zO | apply zL)); exact zU (zX (p := ⟨l, 3, none⟩) (zX (p := ⟨l, 2, none⟩) (zX (p := ⟨l, 1, none⟩) (zX (p := ⟨l, 0, none⟩) (zU B.out (fun k_ hk => (⟨hk, hk.2.2.2.1⟩ : _ ∧ k_ ≠ l))) (fun _ hk => hk.2) (.int .i64 m)) (fun _ hk => hk.2) (.int .i64 s)) (fun _ hk => hk.2) (.slice X q.length Y)) (fun _ hk => hk.2) (.slice z j.length A)) (fun _ hk => ⟨hk.1.1, hk.1.2.1⟩), bW⟩
   rw [if_pos W] at H
   have aK := dT W
   clear W
   obtain ⟨Z, bh, H⟩ := bA H
   by_cases ac : q.length < 140737488355328; rotate_left
   ·rw [if_neg ac] at H
    exact absurd H (by simp)
   rw [if_pos ac] at H
   have aM := mA ac
   clear ac
   obtain ⟨U, ad⟩ := nm ((q ++ [Z]) : List Bool)
   rw [← ad.out] at H
   have H' := mA H
   clear H
   try go_wp2
   replace D := mA (zL D.out)
   replace r := mA (zB r.out)
   replace B := mA (zL B.out)
   replace b := mA (Zah b.out)
   replace d := mA (Zah d.out)
   replace a := mA (Zah a.out)
   replace HB := mA (Zbe HB.out)
   refine start_ (n := 10) (S := fun w' => w'.cell? ⟨c, 0, none⟩ = some (.int .i64 m) ∧ w'.cell? ⟨c, 1, none⟩ = some (.int .i64 s) ∧ w'.cell? ⟨c, 2, none⟩ = some (u) ∧ w'.cell? ⟨c, 3, none⟩ = some (.slice z j.length A) ∧ w'.cell? ⟨E, 0, none⟩ = some (.int .i64 m) ∧ w'.cell? ⟨E, 1, none⟩ = some (.int .i64 s) ∧ w'.cell? ⟨E, 2, none⟩ = some (.int .i64 I) ∧ w'.cell? ⟨E, 3, none⟩ = some (.slice z j.length A)) (ds := [9]) #[false, false, false, false, false, false, false, false, false, false] (by kernel_rfl) rfl rfl ⟨bc a 0, bc a 1, bc a 2, bc a 3, bc b 0, bc b 1, bc b 2, bc b 3⟩ (fun hHeld => ?_); refine Zc6 Zbd.tab5 Zbd.bits5 (fun HT_ HW_ => ?_)
   generalize wr.drew = w14 at D r B b d a HB hHeld ⊢
   refine Za6 (i := 0) (N := some 18) (Zau HT_.out (by kernel_rfl)) ?_
   refine Za6 (i := 2) (N := some 20) (Zau HT_.out (by kernel_rfl)) ?_
   refine Za6 (i := 4) (N := some 22) (Zau HT_.out (by kernel_rfl)) ?_
   refine takeS (i := 1) (N := some 19) (Zbw HT_.out HW_.out (by kernel_rfl)) hHeld ?_
   refine takeS (i := 3) (N := some 21) (Zbw HT_.out HW_.out (by kernel_rfl)) hHeld ?_
   refine one_ (i := 5) (N := some 23) #[true, true, true, true, true, true, false, false, false, false] rfl rfl (Zcc HT_.out (by kernel_rfl)) (by decide) (fun K hK => ?_)
   refine goes_ Tryd.func77 (by kernel_rfl) rfl #[.int .i64 I, .int .i64 L] (by rfl) rfl rfl (by (try simp only [List.map_toArray, List.map_cons, List.map_nil]); first | done | rfl | (simp only [List.length_drop, List.length_take]; rfl)) ?_
   with_reducible refine (Zcz.calls I L Z _ bh.out).mono ?_
   rintro e w' ⟨rfl, ⟨nd, rfl⟩⟩
   refine ⟨_, rfl, ?_⟩
   refine hK.out _ _ ⟨bc a 0, bc a 1, bc a 2, bc a 3, bc b 0, bc b 1, bc b 2, bc b 3⟩ (fun hHeld => ?_)
   clear hK K
   refine putS 23 ?_
   refine one_ (i := 6) (N := some 24) #[true, true, true, true, true, true, true, false, false, false] rfl rfl (Zcc HT_.out (by kernel_rfl)) (by decide) (fun K hK => ?_)
   refine value_ (w1 := ?_) (v := ?_) (by rfl) rfl ?_ ?_
   rotate_left 2
   ·go_simp
    constructor
    ·rfl
    ·rfl
   refine hK.out _ _ ⟨(Zbu (Zag a.out _) 0).trans rfl, (Zbu (Zag a.out _) 1).trans rfl, (Zbu (Zag a.out _) 2).trans rfl, (Zbu (Zag a.out _) 3).trans rfl, (Zbu (Zag b.out _) 0).trans rfl, (Zbu (Zag b.out _) 1).trans rfl, (Zbu (Zag b.out _) 2).trans rfl, (Zbu (Zag b.out _) 3).trans rfl⟩ (fun hHeld => ?_)
   clear hK K
   refine putS 24 ?_
   refine one_ (i := 7) (N := some 25) #[true, true, true, true, true, true, true, true, false, false] rfl rfl (Zcc HT_.out (by kernel_rfl)) (by decide) (fun K hK => ?_)
   refine xJ Kd.bool (w0 := w) w.heap.size (by rfl) (.tmp 19) (.tmp 24) 59 4 (.bool false) 1 rfl Tryd.underlying59 info4 rfl (by decide) (by omega) u q Z [.bool Z] (fun k_ => (w.heap.size ≤ k_)) (fun _ => False) rfl rfl ?aP (fun _ hk => hk.elim) ?aF ?aO ?aB ?aS ?aL ?_
   (case aP => exact rfl)
   (case aB => exact (bW))
   (case aF => exact (fun k_ hk => (Nat.le_trans (Zao (bW)) hk)))
   (case aO => exact (rP r.out))
   (case aS => exact (Zao (bW)))
   (case aL => have := aM.out; omega)
   intro bK bi ho hb hg hat
   rw [← ad.out] at ho
   replace D := mA (Kd.V_afterv (ok := (fun k_ => (J k_ ∨ w.heap.size ≤ k_) ∧ k_ ≠ E ∧ k_ ≠ l ∧ k_ ≠ c)) (by (with_reducible repeat (first | apply zN | apply zO | apply zL)); exact zU D.out (fun _ hk => ⟨⟨hk.1, ⟨hk.2.2.1, ⟨hk.2.2.2.1, hk.2.2.2.2⟩⟩⟩, hk.2.1⟩)) hg hat)
   replace B := mA (Kd.V_afterv (ok := (fun k_ => (J k_ ∨ w.heap.size ≤ k_) ∧ k_ ≠ E ∧ k_ ≠ l ∧ k_ ≠ c)) (by (with_reducible repeat (first | apply zN | apply zO | apply zL)); exact zU B.out (fun _ hk => ⟨⟨hk.1, ⟨hk.2.2.1, ⟨hk.2.2.2.1, hk.2.2.2.2⟩⟩⟩, hk.2.1⟩)) hg hat)
   replace b := mA (Zay (g := E) (o := .cells #[.int .i64 m, .int .i64 s, .int .i64 I, .slice z j.length A] 34 (0, 0)) (bP b.out) hg (zM r.out b.out (by decide)))
   replace d := mA (Zay (g := l) (o := .cells #[.int .i64 0, .int .i64 0, .slice none 0 0, .slice none 0 0] 66 (0, 0)) (bP d.out) hg (zM r.out d.out (by decide)))
   replace a := mA (Zay (g := c) (o := .cells #[.int .i64 m, .int .i64 s, u, .slice z j.length A] 66 (0, 0)) (bP a.out) hg (zM r.out a.out (by decide)))
   replace HB := mA (hb)
   have ae := mA (ho)
   clear r ho hb hg hat
   obtain ⟨aa, ab, aI⟩ := zH ae.out
   (first | subst aI | (injection aI with aR bj aT; have bk := aR.symm; have bl := aT.symm; clear aR bj aT; subst bk; subst bl))
   refine hK.out _ _ ⟨bc a 0, bc a 1, bc a 2, bc a 3, bc b 0, bc b 1, bc b 2, bc b 3⟩ (fun hHeld => ?_)
   clear hK K
   refine putS 25 ?_
   refine Za6 (i := 8) (N := some 26) (Zau HT_.out (by kernel_rfl)) ?_
   refine last_ (i := 9) (N := none) #[true, true, true, true, true, true, true, true, true, true] rfl rfl (Zcc HT_.out (by kernel_rfl)) (by decide) (fun K hK => ?_)
   have bL : bi.cell? ⟨c, 2, none⟩ = some (u) := bc a 2
   have bB := Zaa a.out 2
   have bb := x.out
   have bd := y.out
   have bf := M.out
   have bg := O.out
   refine skip_ (w1 := ?_) (by rfl) rfl ?_ ?_
   rotate_left
   ·go_simp
    rfl
   refine hK.out _ _ ?_
   clear hK K
   refine done_ (done_of HT_.out (by kernel_rfl)) ?_
   try go_wp2
   go_roundg k1
   case measure => have := aQ.out; omega
   case rel => exact ⟨(wrap64 (L + 1)), (U), (.slice aa U.length ab), (eW), H', ⟨by have := aQ.out; omega⟩, ⟨by (with_reducible repeat (first | apply zN | apply zO | apply zL)); exact zU (zX (p := ⟨c, 2, none⟩) (zU D.out (fun k_ hk => (⟨hk, hk.1.2.2.2⟩ : _ ∧ k_ ≠ c))) (fun _ hk => hk.2) (.slice aa U.length ab)) (fun _ hk => ⟨hk.1.1.1, ⟨hk.1.2, ⟨hk.1.1.2.1, ⟨hk.1.1.2.2.1, hk.1.1.2.2.2⟩⟩⟩⟩)⟩, ⟨by (with_reducible repeat (first | apply zE | apply zD | apply zB)); exact zA (zJ (p := ⟨c, 2, none⟩) (yE ae.out a.out (by decide)) (fun _ hk => hk.2) (.slice aa U.length ab)) (fun _ hk => hk.1)⟩, ⟨by (with_reducible repeat (first | apply zN | apply zO | apply zL)); exact zU (zX (p := ⟨c, 2, none⟩) (zU B.out (fun k_ hk => (⟨hk, hk.1.2.2.2⟩ : _ ∧ k_ ≠ c))) (fun _ hk => hk.2) (.slice aa U.length ab)) (fun _ hk => ⟨hk.1.1.1, ⟨hk.1.2, ⟨hk.1.1.2.1, ⟨hk.1.1.2.2.1, hk.1.1.2.2.2⟩⟩⟩⟩)⟩, ⟨by (with_reducible repeat (first | refine Zai ?_ _ | refine Zah ?_ | refine Zag ?_ _)); refine Zbb ?_ x.out _; exact bP b.out⟩, ⟨by (with_reducible repeat (first | refine Zai ?_ _ | refine Zah ?_ | refine Zag ?_ _)); refine Zbb ?_ y.out _; exact bP d.out⟩, ⟨by (with_reducible repeat (first | refine Zai ?_ _ | refine Zah ?_ | refine Zag ?_ _)); refine Zbj (cs := #[.int .i64 m, .int .i64 s, u, .slice z j.length A]) ?_ 2 _ rfl; exact bP a.out⟩, ⟨bW⟩⟩
def Zbg.l0 : Nat → List Int → List Int → Int → Option (Bool)
 | 0, _, _, _ => none
 | k + 1, x0, x1, x5 => if x5 < (x0.length : Int) then (if 0 ≤ x5 then (if x5 < (x1.length : Int) then (if (rd x0 x5) = (rd x1 x5) then (Zbg.l0 k x0 x1 (wrap64 (x5 + 1))) else (some false)) else (none)) else (none)) else (some true)
def Zbg.f (k : Nat) (l0 : List Int) (l1 : List Int) : Option (Bool) := if (l0.length : Int) = (l1.length : Int) then (Zbg.l0 k l0 l1 0) else (some false)
theorem Zbg.calls (k : Nat) (A0 : Option Addr) (c0 : Nat) (l0 : List Int) (A1 : Option Addr) (c1 : Nat) (l1 : List Int) (r : Bool) (w : World) (t : Kd.C (Kd.int .i64) w A0 l0.length l0) (u : l0.length ≤ c0) (v : Kd.C (Kd.int .i64) w A1 l1.length l1) (x : l1.length ≤ c1) (h : Zbg.f k l0 l1 = some r) :
  Calls Tryd.prog 17 #[.slice A0 l0.length c0, .slice A1 l1.length c1] w fun e w' => e = .returned (.bool r) ∧ Zas w w' := by
 have y := mA t
 have I := mA u
 clear t u
 have z := mA v
 have J := mA x
 clear v x
 unfold Zbg.f at h
 have H := h
 clear h
 by_cases c3 : (l0.length : Int) = (l1.length : Int); rotate_left
 ·rw [if_neg c3] at H
  have n : ((l0.length : Int) == (l1.length : Int)) = false := beq_eq_false_iff_ne.mpr c3
  have o : ((l0.length : Int) != (l1.length : Int)) = true := bne_iff_ne.mpr c3
  have p : (l0.length == l1.length) = false := by first | simpa using c3 | (simp at c3 ⊢; omega)
  obtain rfl := oI H
  go_enter Tryd.func17, Tryd.ntmps17
  go_wp2
  repeat (go_quiet (fail); try go_wp2)
  go_ret
  exact ⟨eW, by repeat (first | exact Zas.refl _ | apply Zas.step)⟩
 rw [if_pos c3] at H
 have n : ((l0.length : Int) == (l1.length : Int)) = true := beq_iff_eq.mpr c3
 have o : ((l0.length : Int) != (l1.length : Int)) = false := bne_eq_false_iff_eq.mpr c3
 have p : (l0.length == l1.length) = true := by first | simpa using c3 | (simp at c3 ⊢; omega)
 clear c3
 have H' := mA H
 clear H
 go_enter Tryd.func17, Tryd.ntmps17
 go_wp2
 repeat (go_quiet (fail); try go_wp2)
 go_loopg [5] k (fun kq v5 w' => ∃ (a : Int), v5 = .int .i64 a ∧ Zab (Zbg.l0 kq l0 l1 a = some r) ∧ Zab (kq ≤ k) ∧ Zas w w')
 case atStart => exact ⟨(0), (eW), H', ⟨Nat.le_refl _⟩, by repeat (first | exact Zas.refl _ | apply Zas.step)⟩
 case round =>
  clear H' n o p
  obtain ⟨a, rfl, HA, HK1, ⟨m1, rfl⟩⟩ := hrel
  cases gk with
  | zero => exact absurd HA.out (by simp [Zbg.l0])
  | succ k1 =>
   have H := HA.out
   clear HA
   simp only [Zbg.l0] at H
   by_cases c4 : a < (l0.length : Int); rotate_left
   ·rw [if_neg c4] at H
    have A := dF c4
    clear c4
    obtain rfl := oI H
    go_wp2
    repeat (go_quiet (fail); try go_wp2)
    go_ret
    exact ⟨eW, by repeat (first | exact Zas.refl _ | apply Zas.step)⟩
   rw [if_pos c4] at H
   have A := dT c4
   clear c4
   obtain ⟨E, H⟩ := gE H
   obtain ⟨G, H⟩ := gE H
   by_cases c7 : (rd l0 a) = (rd l1 a); rotate_left
   ·rw [if_neg c7] at H
    have B : ((rd l0 a) == (rd l1 a)) = false := beq_eq_false_iff_ne.mpr c7
    have D : ((rd l0 a) != (rd l1 a)) = true := bne_iff_ne.mpr c7
    obtain rfl := oI H
    have b : 0 ≤ (a : Int) := ofD
    have c : a < (l0.length : Int) := ofD
    obtain ⟨q, i, l⟩ := zK y.out a b c
    cases i
    replace b := eq_true b
    replace c := eq_true c
    have d : 0 ≤ (a : Int) := ofD
    have g : a < (l1.length : Int) := ofD
    obtain ⟨s, j, m⟩ := zK z.out a d g
    cases j
    replace d := eq_true d
    replace g := eq_true g
    go_wp2
    repeat (go_quiet (fail); try go_wp2)
    go_ret
    exact ⟨eW, by repeat (first | exact Zas.refl _ | apply Zas.step)⟩
   rw [if_pos c7] at H
   have B : ((rd l0 a) == (rd l1 a)) = true := beq_iff_eq.mpr c7
   have D : ((rd l0 a) != (rd l1 a)) = false := bne_eq_false_iff_eq.mpr c7
   clear c7
   have H' := mA H
   clear H
   have b : 0 ≤ (a : Int) := ofD
   have c : a < (l0.length : Int) := ofD
   obtain ⟨q, i, l⟩ := zK y.out a b c
   cases i
   replace b := eq_true b
   replace c := eq_true c
   have d : 0 ≤ (a : Int) := ofD
   have g : a < (l1.length : Int) := ofD
   obtain ⟨s, j, m⟩ := zK z.out a d g
   cases j
   replace d := eq_true d
   replace g := eq_true g
   go_wp2
   repeat (go_quiet (fail); try go_wp2)
   go_roundg k1
   case measure => have := HK1.out; omega
   case rel => exact ⟨(wrap64 (a + 1)), (eW), H', ⟨by have := HK1.out; omega⟩, by repeat (first | exact Zas.refl _ | apply Zas.step)⟩
def Zcw.f (k : Nat) (a : Int) (b : List Int) (c : Int) (d : List Int) : Option (Bool) := if a = c then ((Zbg.f k b d).bind fun e => (if e = true then (some true) else (some false))) else (some false)
theorem Zcw.calls (k : Nat) (j : Int) (m : Option Addr) (n : Nat) (d : List Int) (l : Int) (o : Option Addr) (p : Nat) (g : List Int) (r : Bool) (w : World) (q : Kd.C (Kd.int .i64) w m d.length d) (s : d.length ≤ n) (u : Kd.C (Kd.int .i64) w o g.length g) (v : g.length ≤ p) (h : Zcw.f k j d l g = some r) :
  Calls Tryd.prog 15 #[.agg #[.int .i64 j, .slice m d.length n], .agg #[.int .i64 l, .slice o g.length p]] w fun e w' => e = .returned (.bool r) ∧ Below w.heap.size w w' := by
 have aw := Tryd.underlying32
 have x := mA q
 have y := mA s
 clear q s
 have z := mA u
 have A := mA v
 clear u v
 have HB := mA (Below.refl w.heap.size w)
 unfold Zcw.f at h
 have H := h
 clear h
 by_cases c3 : j = l; rotate_left
 ·rw [if_neg c3] at H
  have K : (j == l) = false := beq_eq_false_iff_ne.mpr c3
  have L : (j != l) = true := bne_iff_ne.mpr c3
  obtain rfl := oI H
  go_enter Tryd.func15, Tryd.ntmps15
  go_wp2_with (first | ((with_reducible refine Zan (N := 2) rfl ?_); refine boxS (N := 2) (cs := #[.int .i64 j, .slice m d.length n]) (t := 32) ?_; intro B hg az hbox hb; have a := mA (hbox); have D := geW (w := w) hg; have E := geW (w := w) hg; replace HB := mA (Zac (bW) hb); clear hb hbox hg) | ((with_reducible refine Zan (N := 3) rfl ?_); refine boxS (N := 3) (cs := #[.int .i64 l, .slice o g.length p]) (t := 32) ?_; intro G hg aA hbox hb; have i := mA (hbox); have I := geW (w := w) hg; have J := geW (w := w) hg; replace HB := mA (Zac (bW) hb); have b := mA (neB hg a); have c := mA (neC hg a); replace a := mA (blkB a.out hb); clear hb hbox hg; have aq := b.out; have ar := c.out; obtain ⟨O, P⟩ := Zcg a.out; obtain ⟨T, U⟩ := frz2 a.out; obtain ⟨W, X⟩ := Zcg i.out; obtain ⟨Y, Z⟩ := frz2 i.out))
  go_ret
  exact ⟨eW, bW⟩
 rw [if_pos c3] at H
 have K : (j == l) = true := beq_iff_eq.mpr c3
 have L : (j != l) = false := bne_eq_false_iff_eq.mpr c3
 clear c3
 obtain ⟨M, A4, H⟩ := bA H
 by_cases c5 : M = true
 ·subst c5
  rw [if_pos rfl] at H
  obtain rfl := oI H
  go_enter Tryd.func15, Tryd.ntmps15
  go_wp2_with (first | ((with_reducible refine Zan (N := 2) rfl ?_); refine boxS (N := 2) (cs := #[.int .i64 j, .slice m d.length n]) (t := 32) ?_; intro B hg w6 hbox hb; have a := mA (hbox); have D := geW (w := w) hg; have E := geW (w := w) hg; replace HB := mA (Zac (bW) hb); clear hb hbox hg) | ((with_reducible refine Zan (N := 3) rfl ?_); refine boxS (N := 3) (cs := #[.int .i64 l, .slice o g.length p]) (t := 32) ?_; intro G hg w7 hbox hb; have i := mA (hbox); have I := geW (w := w) hg; have J := geW (w := w) hg; replace HB := mA (Zac (bW) hb); have b := mA (neB hg a); have c := mA (neC hg a); replace a := mA (blkB a.out hb); clear hb hbox hg; have ax := b.out; have ay := c.out; obtain ⟨am, an⟩ := Zcg a.out; obtain ⟨ao, ap⟩ := frz2 a.out; obtain ⟨aa, ab⟩ := Zcg i.out; obtain ⟨ac, ad⟩ := frz2 i.out) | ((with_reducible refine Zal (f := 17) rfl ?_); refine Zbc (some 14) Tryd.func17 #[.slice m d.length n, .slice o g.length p] ?_; (with_reducible refine (Zbg.calls k _ _ d _ _ g true _ ?side1 ?side2 ?side3 ?side4 A4.out).mono ?_); (case side1 => exact cP (zC x.out HB.out)); (case side2 => exact y.out); (case side3 => exact cP (zC z.out HB.out)); (case side4 => exact A.out); rintro e w' ⟨rfl, ⟨nd, rfl⟩⟩; refine ⟨_, rfl, ?_⟩))
  go_ret
  exact ⟨eW, bW⟩
 replace c5 := Bool.eq_false_iff.mpr c5
 subst c5
 rw [iF] at H
 obtain rfl := oI H
 go_enter Tryd.func15, Tryd.ntmps15
 go_wp2_with (first | ((with_reducible refine Zan (N := 2) rfl ?_); refine boxS (N := 2) (cs := #[.int .i64 j, .slice m d.length n]) (t := 32) ?_; intro B hg aB hbox hb; have a := mA (hbox); have D := geW (w := w) hg; have E := geW (w := w) hg; replace HB := mA (Zac (bW) hb); clear hb hbox hg) | ((with_reducible refine Zan (N := 3) rfl ?_); refine boxS (N := 3) (cs := #[.int .i64 l, .slice o g.length p]) (t := 32) ?_; intro G hg aC hbox hb; have i := mA (hbox); have I := geW (w := w) hg; have J := geW (w := w) hg; replace HB := mA (Zac (bW) hb); have b := mA (neB hg a); have c := mA (neC hg a); replace a := mA (blkB a.out hb); clear hb hbox hg; have au := b.out; have av := c.out; obtain ⟨ae, af⟩ := Zcg a.out; obtain ⟨ag, ah⟩ := frz2 a.out; obtain ⟨ai, aj⟩ := Zcg i.out; obtain ⟨ak, al⟩ := frz2 i.out) | ((with_reducible refine Zal (f := 17) rfl ?_); refine Zbc (some 14) Tryd.func17 #[.slice m d.length n, .slice o g.length p] ?_; (with_reducible refine (Zbg.calls k _ _ d _ _ g false _ ?side1 ?side2 ?side3 ?side4 A4.out).mono ?_); (case side1 => exact cP (zC x.out HB.out)); (case side2 => exact y.out); (case side3 => exact cP (zC z.out HB.out)); (case side4 => exact A.out); rintro e w' ⟨rfl, ⟨nd, rfl⟩⟩; refine ⟨_, rfl, ?_⟩))
 go_ret
 exact ⟨eW, bW⟩
def Zbm.l0 : Nat → List (List Int) → List (List Int) → Int → Option (Bool)
 | 0, _, _, _ => none
 | k + 1, x0, x1, x5 => if x5 < (x0.length : Int) then (if 0 ≤ x5 then (if x5 < (x1.length : Int) then ((Zbg.f k (Zae x0 x5) (Zae x1 x5)).bind fun a => (if a = true then (Zbm.l0 k x0 x1 (wrap64 (x5 + 1))) else (some false))) else (none)) else (none)) else (some true)
def Zbm.f (k : Nat) (l0 : List (List Int)) (l1 : List (List Int)) : Option (Bool) := if (l0.length : Int) = (l1.length : Int) then (Zbm.l0 k l0 l1 0) else (some false)
theorem Zbm.calls (k : Nat) (A0 : Option Addr) (c0 : Nat) (l0 : List (List Int)) (A1 : Option Addr) (c1 : Nat) (l1 : List (List Int)) (r : Bool) (w : World) (J : Kd.C (Kd.slice 2 (Kd.int .i64)) w A0 l0.length l0) (K : l0.length ≤ c0) (L : Kd.C (Kd.slice 2 (Kd.int .i64)) w A1 l1.length l1) (M : l1.length ≤ c1) (h : Zbm.f k l0 l1 = some r) :
  Calls Tryd.prog 28 #[.slice A0 l0.length c0, .slice A1 l1.length c1] w fun e w' => e = .returned (.bool r) ∧ Zas w w' := by
 have O := mA J
 have Y := mA K
 clear J K
 have P := mA L
 have Z := mA M
 clear L M
 unfold Zbm.f at h
 have H := h
 clear h
 by_cases c3 : (l0.length : Int) = (l1.length : Int); rotate_left
 ·rw [if_neg c3] at H
  have x : ((l0.length : Int) == (l1.length : Int)) = false := beq_eq_false_iff_ne.mpr c3
  have y : ((l0.length : Int) != (l1.length : Int)) = true := bne_iff_ne.mpr c3
  have z : (l0.length == l1.length) = false := by first | simpa using c3 | (simp at c3 ⊢; omega)
  obtain rfl := oI H
  go_enter Tryd.func28, Tryd.ntmps28
  go_wp2
  repeat (go_quiet (fail); try go_wp2)
  go_ret
  exact ⟨eW, by repeat (first | exact Zas.refl _ | apply Zas.step)⟩
 rw [if_pos c3] at H
 have x : ((l0.length : Int) == (l1.length : Int)) = true := beq_iff_eq.mpr c3
 have y : ((l0.length : Int) != (l1.length : Int)) = false := bne_eq_false_iff_eq.mpr c3
 have z : (l0.length == l1.length) = true := by first | simpa using c3 | (simp at c3 ⊢; omega)
 clear c3
 have H' := mA H
 clear H
 go_enter Tryd.func28, Tryd.ntmps28
 go_wp2
 repeat (go_quiet (fail); try go_wp2)
 go_loopg [5] k (fun kq v5 w' => ∃ (a : Int), v5 = .int .i64 a ∧ Zab (Zbm.l0 kq l0 l1 a = some r) ∧ Zab (kq ≤ k) ∧ Zas w w')
 case atStart => exact ⟨(0), (eW), H', ⟨Nat.le_refl _⟩, by repeat (first | exact Zas.refl _ | apply Zas.step)⟩
 case round =>
  clear H' x y z
  obtain ⟨a, rfl, HA, HK1, ⟨m1, rfl⟩⟩ := hrel
  cases gk with
  | zero => exact absurd HA.out (by simp [Zbm.l0])
  | succ k1 =>
   have H := HA.out
   clear HA
   simp only [Zbm.l0] at H
   by_cases c4 : a < (l0.length : Int); rotate_left
   ·rw [if_neg c4] at H
    have T := dF c4
    clear c4
    obtain rfl := oI H
    go_wp2
    repeat (go_quiet (fail); try go_wp2)
    go_ret
    exact ⟨eW, by repeat (first | exact Zas.refl _ | apply Zas.step)⟩
   rw [if_pos c4] at H
   have T := dT c4
   clear c4
   obtain ⟨W, H⟩ := gE H
   obtain ⟨X, H⟩ := gE H
   obtain ⟨U, A7, H⟩ := bA H
   by_cases c8 : U = true; rotate_left
   ·replace c8 := Bool.eq_false_iff.mpr c8
    subst c8
    rw [iF] at H
    obtain rfl := oI H
    have n : 0 ≤ (a : Int) := ofD
    have o : a < (l0.length : Int) := ofD
    obtain ⟨G, A, B, s, u, i, j⟩ := at_L1 O.out a n o
    cases s
    have b := mA j
    have c := mA i
    clear j i
    replace n := eq_true n
    replace o := eq_true o
    have p : 0 ≤ (a : Int) := ofD
    have q : a < (l1.length : Int) := ofD
    obtain ⟨I, D, E, t, v, l, m⟩ := at_L1 P.out a p q
    cases t
    have d := mA m
    have g := mA l
    clear m l
    replace p := eq_true p
    replace q := eq_true q
    go_wp2_with (first | (go_at_call 17; (with_reducible refine (Zbg.calls k1 _ _ (Zae l0 a) _ _ (Zae l1 a) false _ ?side1 ?side2 ?side3 ?side4 A7.out).mono ?_); (case side1 => exact cP b.out); (case side2 => exact c.out); (case side3 => exact cP d.out); (case side4 => exact g.out); rintro e w' ⟨rfl, ⟨nd, rfl⟩⟩; (try first | exact dwD | exact dwE)))
    repeat (go_quiet (first | (go_at_call 17; (with_reducible refine (Zbg.calls k1 _ _ (Zae l0 a) _ _ (Zae l1 a) false _ ?side1 ?side2 ?side3 ?side4 A7.out).mono ?_); (case side1 => exact cP b.out); (case side2 => exact c.out); (case side3 => exact cP d.out); (case side4 => exact g.out); rintro e w' ⟨rfl, ⟨nd, rfl⟩⟩; (try first | exact dwD | exact dwE))); try go_wp2_with (first | (go_at_call 17; (with_reducible refine (Zbg.calls k1 _ _ (Zae l0 a) _ _ (Zae l1 a) false _ ?side1 ?side2 ?side3 ?side4 A7.out).mono ?_); (case side1 => exact cP b.out); (case side2 => exact c.out); (case side3 => exact cP d.out); (case side4 => exact g.out); rintro e w' ⟨rfl, ⟨nd, rfl⟩⟩; (try first | exact dwD | exact dwE))))
    go_ret
    exact ⟨eW, by repeat (first | exact Zas.refl _ | apply Zas.step)⟩
   subst c8
   rw [if_pos rfl] at H
   have H' := mA H
   clear H
   have n : 0 ≤ (a : Int) := ofD
   have o : a < (l0.length : Int) := ofD
   obtain ⟨G, A, B, s, u, i, j⟩ := at_L1 O.out a n o
   cases s
   have b := mA j
   have c := mA i
   clear j i
   replace n := eq_true n
   replace o := eq_true o
   have p : 0 ≤ (a : Int) := ofD
   have q : a < (l1.length : Int) := ofD
   obtain ⟨I, D, E, t, v, l, m⟩ := at_L1 P.out a p q
   cases t
   have d := mA m
   have g := mA l
   clear m l
   replace p := eq_true p
   replace q := eq_true q
   go_wp2_with (first | (go_at_call 17; (with_reducible refine (Zbg.calls k1 _ _ (Zae l0 a) _ _ (Zae l1 a) true _ ?side1 ?side2 ?side3 ?side4 A7.out).mono ?_); (case side1 => exact cP b.out); (case side2 => exact c.out); (case side3 => exact cP d.out); (case side4 => exact g.out); rintro e w' ⟨rfl, ⟨nd, rfl⟩⟩; (try first | exact dwD | exact dwE)))
   repeat (go_quiet (first | (go_at_call 17; (with_reducible refine (Zbg.calls k1 _ _ (Zae l0 a) _ _ (Zae l1 a) true _ ?side1 ?side2 ?side3 ?side4 A7.out).mono ?_); (case side1 => exact cP b.out); (case side2 => exact c.out); (case side3 => exact cP d.out); (case side4 => exact g.out); rintro e w' ⟨rfl, ⟨nd, rfl⟩⟩; (try first | exact dwD | exact dwE))); try go_wp2_with (first | (go_at_call 17; (with_reducible refine (Zbg.calls k1 _ _ (Zae l0 a) _ _ (Zae l1 a) true _ ?side1 ?side2 ?side3 ?side4 A7.out).mono ?_); (case side1 => exact cP b.out); (case side2 => exact c.out); (case side3 => exact cP d.out); (case side4 => exact g.out); rintro e w' ⟨rfl, ⟨nd, rfl⟩⟩; (try first | exact dwD | exact dwE))))
   go_roundg k1
   case measure => have := HK1.out; omega
   case rel => exact ⟨(wrap64 (a + 1)), (eW), H', ⟨by have := HK1.out; omega⟩, by repeat (first | exact Zas.refl _ | apply Zas.step)⟩
end Go.Proofs.YtlmicipfikammaaDoor.P
end
