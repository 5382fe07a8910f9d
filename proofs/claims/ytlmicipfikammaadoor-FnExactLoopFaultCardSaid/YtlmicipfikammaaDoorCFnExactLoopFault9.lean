import Derived.Test.YtlmicipfikammaaDoorCFnExactLoopFault7
import Derived.Test.YtlmicipfikammaaDoorCFnExactLoopFault8
set_option maxHeartbeats 8000000
set_option maxRecDepth 100000
section
namespace Go.Proofs.YtlmicipfikammaaDoor.P
open Go.RowKit Go.Proofs.YtlmicipfikammaaDoor.Sh Go.Proofs.YtlmicipfikammaaDoorW.PrintWords Go.Proofs.YtlmicipfikammaaDoorW.PrintLast Go.Proofs.YtlmicipfikammaaDoorW.PrintMore
open Kd
attribute [local go_sem] Zb8 Zcb Zcm Zcl Zb4 Zb3 Zb7 Zcd   -- for this text's walks alone
set_option linter.unusedVariables false
set_option linter.unusedSimpArgs false
mutual
def Zak.l0 : Nat → Int → Int → Int → Int → List Int → Option (Bool)
 | 0, _, _, _, _, _ => none
 | k + 1, x1, x5, x6, a, b => if x6 < a then (Zak.j1 k x1 x5 x6 (x5 == 0) a b) else (Zak.j1 k x1 x5 x6 false a b)
def Zak.j1 : Nat → Int → Int → Int → Bool → Int → List Int → Option (Bool)
 | 0, _, _, _, _, _, _ => none
 | k + 1, x1, x5, x6, e, a, b => if e = true then ((Zaq.f x1 x6).bind fun c => (if c = true then ((Zba.f x6).bind fun d => (Zak.l0 k x1 d (wrap64 (x6 + 1)) a b)) else (Zak.l0 k x1 x5 (wrap64 (x6 + 1)) a b))) else (Zak.l1 k x1 x5 true a b)
def Zak.l1 : Nat → Int → Int → Bool → Int → List Int → Option (Bool)
 | 0, _, _, _, _, _ => none
 | k + 1, x1, x5, x7, a, b => if x7 = true then (Zak.l2 k x1 x5 false 0 a b) else (some (x5 == x1))
def Zak.l2 : Nat → Int → Int → Bool → Int → Int → List Int → Option (Bool)
 | 0, _, _, _, _, _, _ => none
 | k + 1, x1, x5, x7, x8, b, a => if x8 < b then ((Zaq.f x1 x8).bind fun c => (if c = true then ((Zaq.f x5 x8).bind fun d => (if d = true then (Zak.l2 k x1 x5 x7 (wrap64 (x8 + 1)) b a) else (if 0 ≤ x8 then (if x8 < (a.length : Int) then (if (Go.bits .and .i64 (rd a x8) x5) = 0 then (Zak.l2 k x1 x5 x7 (wrap64 (x8 + 1)) b a) else ((Zba.f x8).bind fun e => (Zak.l2 k x1 (Go.bits .or .i64 x5 e) true (wrap64 (x8 + 1)) b a))) else (none)) else (none)))) else (Zak.l2 k x1 x5 x7 (wrap64 (x8 + 1)) b a))) else (Zak.l1 k x1 x5 x7 b a)
end
def Zak.f (k : Nat) (a : Int) (b : List Int) (a1 : Int) : Option (Bool) := Zak.l0 k a1 0 0 a b
theorem Zak.calls (k : Nat) (g : Int) (j : Option Addr) (l : Nat) (c : List Int) (a1 : Int) (r : Bool) (w : World) (X : Kd.C (Kd.int .i64) w j c.length c) (Y : c.length ≤ l) (h : Zak.f k g c a1 = some r) :
  Calls Tryd.prog 49 #[.agg #[.int .i64 g, .slice j c.length l], .int .i64 a1] w fun e w' => e = .returned (.bool r) ∧ Below w.heap.size w w' := by
 have aS := Tryd.underlying32
 have Z := mA X
 have aN := mA Y
 clear X Y
 have HB := mA (Below.refl w.heap.size w)
 unfold Zak.f at h
 have H := h
 clear h
 have H' := mA H
 clear H
 go_enter Tryd.func49, Tryd.ntmps49
 go_wp2_with (first | ((with_reducible refine Zan (N := 2) rfl ?_); refine boxS (N := 2) (cs := #[.int .i64 g, .slice j c.length l]) (t := 32) ?_; intro d hg w3 hbox hb; have a := mA (hbox); have aO := geW (w := w) hg; have aP := geW (w := w) hg; replace HB := mA (Zac (bW) hb); clear hb hbox hg))
 go_loopg [5, 6] k (fun kq v5 v6 w' => ∃ (v : Int) (m : Int), v5 = .int .i64 v ∧ v6 = .int .i64 m ∧ Zab (Zak.l0 kq a1 v m g c = some r) ∧ Zab (kq ≤ k) ∧ Zab (w'.heap[d]? = some (.cells #[.int .i64 g, (.slice j c.length l)] 32 (0, 0))) ∧ Zab (Below w.heap.size w w'))
 case atStart => exact ⟨(0), (0), (eW), (eW), H', ⟨Nat.le_refl _⟩, ⟨bP a.out⟩, ⟨bW⟩⟩
 case round =>
  clear H'
  try clear p2
  obtain ⟨v, m, rfl, rfl, HA, o, a, HB⟩ := hrel
  cases gk with
  | zero => exact absurd HA.out (by simp [Zak.l0])
  | succ k1 =>
   have H := HA.out
   clear HA
   simp only [Zak.l0] at H
   have ae := mA H
   clear H
   go_upto_region 3 with (fail)
   go_cut [16] (fun v16 wc => ∃ (kq : Nat) (A : Bool), v16 = .bool A ∧ Zab (Zak.j1 kq a1 v m A g c = some r) ∧ Zab (kq ≤ k1) ∧ Zab (wc.heap[d]? = some (.cells #[.int .i64 g, (.slice j c.length l)] 32 (0, 0))) ∧ Zab (Below w.heap.size w wc))
   case first =>
    have H := ae.out
    clear ae
    by_cases c5 : m < g; rotate_left
    ·rw [if_neg c5] at H
     have q := dF c5
     clear c5
     (first | rw [q] | (simp only [Zci, i32_w]; rw [q]) | skip)
     have H' := mA H
     clear H
     have B : wr.cell? ⟨d, 0, none⟩ = some (.int .i64 g) := bc a 0
     have D : wr.cell? ⟨d, 1, none⟩ = some (.slice j c.length l) := bc a 1
     have E := Zaa a.out 0
     have G := Zaa a.out 1
     go_wp2
     go_meet
     case rel => exact ⟨_, (false), (eW), H', ⟨by have := o.out; first | omega | exact Nat.le_refl _⟩, ⟨bP a.out⟩, ⟨bW⟩⟩
    rw [if_pos c5] at H
    have q := dT c5
    clear c5
    (first | rw [q] | (simp only [Zci, i32_w]; rw [q]) | skip)
    have H' := mA H
    clear H
    have I : wr.cell? ⟨d, 0, none⟩ = some (.int .i64 g) := bc a 0
    have J : wr.cell? ⟨d, 1, none⟩ = some (.slice j c.length l) := bc a 1
    have K := Zaa a.out 0
    have L := Zaa a.out 1
    go_wp2
    go_meet
    case rel => exact ⟨_, ((v == 0)), (eW), H', ⟨by have := o.out; first | omega | exact Nat.le_refl _⟩, ⟨bP a.out⟩, ⟨bW⟩⟩
   case rest =>
    clear ae
    try clear p2
    try clear c4
    try clear c5
    try clear q
    try clear I
    try clear J
    try clear B
    try clear D
    try clear K
    try clear L
    try clear E
    try clear G
    try clear p2
    obtain ⟨kq, A, rfl, HA, p, a, HB⟩ := hcut
    cases kq with
    | zero => exact absurd HA.out (by simp [Zak.j1])
    | succ aa =>
     have H := HA.out
     clear HA
     simp only [Zak.j1] at H
     by_cases c8 : A = true
     ·subst c8
      rw [if_pos rfl] at H
      obtain ⟨am, A9, H⟩ := bA H
      by_cases c10 : am = true; rotate_left
      ·replace c10 := Bool.eq_false_iff.mpr c10
       subst c10
       rw [iF] at H
       have H' := mA H
       clear H
       go_wp2_with (first | ((with_reducible refine Zal (f := 39) rfl ?_); refine Zbc (some 21) Tryd.func39 #[.int .i64 a1, .int .i64 m] ?_; (with_reducible refine (Zaq.calls a1 m false _ A9.out).mono ?_); rintro e w' ⟨rfl, ⟨nd, rfl⟩⟩; refine ⟨_, rfl, ?_⟩))
       go_roundg aa
       case measure => have := o.out; have := p.out; omega
       case rel => exact ⟨(v), (wrap64 (m + 1)), (eW), (eW), H', ⟨by have := o.out; have := p.out; omega⟩, ⟨bP a.out⟩, ⟨bW⟩⟩
      subst c10
      rw [if_pos rfl] at H
      obtain ⟨af, aL, H⟩ := bA H
      have H' := mA H
      clear H
      go_wp2_with (first | ((with_reducible refine Zal (f := 39) rfl ?_); refine Zbc (some 21) Tryd.func39 #[.int .i64 a1, .int .i64 m] ?_; (with_reducible refine (Zaq.calls a1 m true _ A9.out).mono ?_); rintro e w' ⟨rfl, ⟨nd, rfl⟩⟩; refine ⟨_, rfl, ?_⟩) | ((with_reducible refine Zal (f := 37) rfl ?_); refine Zbc (some 23) Tryd.func37 #[.int .i64 m] ?_; (with_reducible refine (Zba.calls m af _ aL.out).mono ?_); rintro e w' ⟨rfl, ⟨nd, rfl⟩⟩; refine ⟨_, rfl, ?_⟩))
      go_roundg aa
      case measure => have := o.out; have := p.out; omega
      case rel => exact ⟨(af), (wrap64 (m + 1)), (eW), (eW), H', ⟨by have := o.out; have := p.out; omega⟩, ⟨bP a.out⟩, ⟨bW⟩⟩
     replace c8 := Bool.eq_false_iff.mpr c8
     subst c8
     rw [iF] at H
     have H' := mA H
     clear H
     go_wp2
     go_loopg [5, 7] aa (fun kq v5 v7 w' => ∃ (P : Int) (T : Bool), v5 = .int .i64 P ∧ v7 = .bool T ∧ Zab (Zak.l1 kq a1 P T g c = some r) ∧ Zab (kq ≤ aa) ∧ Zab (w'.heap[d]? = some (.cells #[.int .i64 g, (.slice j c.length l)] 32 (0, 0))) ∧ Zab (Below w.heap.size w w'))
     case atStart => exact ⟨(v), (true), (eW), (eW), H', ⟨Nat.le_refl _⟩, ⟨bP a.out⟩, ⟨bW⟩⟩
     case round =>
      clear H'
      try clear c1
      try clear p2
      try clear c3
      try clear c4
      try clear c5
      try clear q
      try clear p6
      try clear c8
      try clear c10
      try clear I
      try clear J
      try clear B
      try clear D
      try clear K
      try clear L
      try clear E
      try clear G
      try clear p2
      obtain ⟨P, T, rfl, rfl, HA, s, a, HB⟩ := hrel
      cases gk with
      | zero => exact absurd HA.out (by simp [Zak.l1])
      | succ k3 =>
       have H := HA.out
       clear HA
       simp only [Zak.l1] at H
       by_cases U : T = true; rotate_left
       ·replace U := Bool.eq_false_iff.mpr U
        subst U
        rw [iF] at H
        obtain rfl := oI H
        go_wp2
        go_ret
        exact ⟨eW, bW⟩
       subst U
       rw [if_pos rfl] at H
       have H' := mA H
       clear H
       go_wp2
       go_loopg [5, 7, 8] k3 (fun kq v5 v7 v8 w' => ∃ (i : Int) (x : Bool) (b : Int), v5 = .int .i64 i ∧ v7 = .bool x ∧ v8 = .int .i64 b ∧ Zab (Zak.l2 kq a1 i x b g c = some r) ∧ Zab (kq ≤ k3) ∧ Zab (w'.heap[d]? = some (.cells #[.int .i64 g, (.slice j c.length l)] 32 (0, 0))) ∧ Zab (Below w.heap.size w w'))
       case atStart => exact ⟨(P), (false), (0), (eW), (eW), (eW), H', ⟨Nat.le_refl _⟩, ⟨bP a.out⟩, ⟨bW⟩⟩
       case round =>
        clear H'
        try clear c1
        try clear p2
        try clear c3
        try clear c4
        try clear c5
        try clear q
        try clear p6
        try clear c8
        try clear c10
        try clear U
        try clear I
        try clear J
        try clear B
        try clear D
        try clear K
        try clear L
        try clear E
        try clear G
        try clear p2
        try clear p6
        obtain ⟨i, x, b, rfl, rfl, rfl, HA, u, a, HB⟩ := hrel
        cases gk with
        | zero => exact absurd HA.out (by simp [Zak.l2])
        | succ k4 =>
         have H := HA.out
         clear HA
         simp only [Zak.l2] at H
         by_cases O : b < g; rotate_left
         ·rw [if_neg O] at H
          have ai := dF O
          clear O
          have H' := mA H
          clear H
          have ap : wr.cell? ⟨d, 0, none⟩ = some (.int .i64 g) := bc a 0
          have aq : wr.cell? ⟨d, 1, none⟩ = some (.slice j c.length l) := bc a 1
          have ar := Zaa a.out 0
          have au := Zaa a.out 1
          go_wp2
          go_roundg k4
          case measure => have := o.out; have := p.out; have := s.out; have := u.out; omega
          case rel => exact ⟨(i), (x), (eW), (eW), H', ⟨by have := o.out; have := p.out; have := s.out; have := u.out; omega⟩, ⟨bP a.out⟩, ⟨bW⟩⟩
         rw [if_pos O] at H
         have ai := dT O
         clear O
         obtain ⟨an, ab, H⟩ := bA H
         by_cases ac : an = true; rotate_left
         ·replace ac := Bool.eq_false_iff.mpr ac
          subst ac
          rw [iF] at H
          have H' := mA H
          clear H
          have av : wr.cell? ⟨d, 0, none⟩ = some (.int .i64 g) := bc a 0
          have aw : wr.cell? ⟨d, 1, none⟩ = some (.slice j c.length l) := bc a 1
          have ax := Zaa a.out 0
          have ay := Zaa a.out 1
          go_wp2_with (first | ((with_reducible refine Zal (f := 39) rfl ?_); refine Zbc (some 33) Tryd.func39 #[.int .i64 a1, .int .i64 b] ?_; (with_reducible refine (Zaq.calls a1 b false _ ab.out).mono ?_); rintro e w' ⟨rfl, ⟨nd, rfl⟩⟩; refine ⟨_, rfl, ?_⟩))
          go_roundg k4
          case measure => have := o.out; have := p.out; have := s.out; have := u.out; omega
          case rel => exact ⟨(i), (x), (wrap64 (b + 1)), (eW), (eW), (eW), H', ⟨by have := o.out; have := p.out; have := s.out; have := u.out; omega⟩, ⟨bP a.out⟩, ⟨bW⟩⟩
         subst ac
         rw [if_pos rfl] at H
         obtain ⟨ao, ag, H⟩ := bA H
         by_cases ad : ao = true
         ·subst ad
          rw [if_pos rfl] at H
          have H' := mA H
          clear H
          have az : wr.cell? ⟨d, 0, none⟩ = some (.int .i64 g) := bc a 0
          have aA : wr.cell? ⟨d, 1, none⟩ = some (.slice j c.length l) := bc a 1
          have aB := Zaa a.out 0
          have aC := Zaa a.out 1
          go_wp2_with (first | ((with_reducible refine Zal (f := 39) rfl ?_); refine Zbc (some 33) Tryd.func39 #[.int .i64 a1, .int .i64 b] ?_; (with_reducible refine (Zaq.calls a1 b true _ ab.out).mono ?_); rintro e w' ⟨rfl, ⟨nd, rfl⟩⟩; refine ⟨_, rfl, ?_⟩) | (go_at_call 39; (with_reducible refine (Zaq.calls i b true _ ag.out).mono ?_); rintro e w' ⟨rfl, ⟨nd, rfl⟩⟩))
          go_roundg k4
          case measure => have := o.out; have := p.out; have := s.out; have := u.out; omega
          case rel => exact ⟨(i), (x), (wrap64 (b + 1)), (eW), (eW), (eW), H', ⟨by have := o.out; have := p.out; have := s.out; have := u.out; omega⟩, ⟨bP a.out⟩, ⟨bW⟩⟩
         replace ad := Bool.eq_false_iff.mpr ad
         subst ad
         rw [iF] at H
         obtain ⟨aQ, H⟩ := gE H
         obtain ⟨aR, H⟩ := gE H
         by_cases M : (Go.bits .and .i64 (rd c b) i) = 0
         ·rw [if_pos M] at H
          have aj : ((Go.bits .and .i64 (rd c b) i) == 0) = true := beq_iff_eq.mpr M
          have ak : ((Go.bits .and .i64 (rd c b) i) != 0) = false := bne_eq_false_iff_eq.mpr M
          clear M
          have H' := mA H
          clear H
          have aD : wr.cell? ⟨d, 0, none⟩ = some (.int .i64 g) := bc a 0
          have aE : wr.cell? ⟨d, 1, none⟩ = some (.slice j c.length l) := bc a 1
          have aF := Zaa a.out 0
          have aG := Zaa a.out 1
          go_wp2_with (first | ((with_reducible refine Zal (f := 39) rfl ?_); refine Zbc (some 33) Tryd.func39 #[.int .i64 a1, .int .i64 b] ?_; (with_reducible refine (Zaq.calls a1 b true _ ab.out).mono ?_); rintro e w' ⟨rfl, ⟨nd, rfl⟩⟩; refine ⟨_, rfl, ?_⟩) | (go_at_call 39; (with_reducible refine (Zaq.calls i b false _ ag.out).mono ?_); rintro e w' ⟨rfl, ⟨nd, rfl⟩⟩; have y : 0 ≤ (b : Int) := ofD; have z : b < (c.length : Int) := ofD; obtain ⟨al, W, n⟩ := zK Z.out b y z; cases W; replace n := (HB.out.cell (wB w n)).trans n; replace y := eq_true y; replace z := eq_true z))
          go_roundg k4
          case measure => have := o.out; have := p.out; have := s.out; have := u.out; omega
          case rel => exact ⟨(i), (x), (wrap64 (b + 1)), (eW), (eW), (eW), H', ⟨by have := o.out; have := p.out; have := s.out; have := u.out; omega⟩, ⟨bP a.out⟩, ⟨bW⟩⟩
         rw [if_neg M] at H
         have aj : ((Go.bits .and .i64 (rd c b) i) == 0) = false := beq_eq_false_iff_ne.mpr M
         have ak : ((Go.bits .and .i64 (rd c b) i) != 0) = true := bne_iff_ne.mpr M
         obtain ⟨ah, aM, H⟩ := bA H
         have H' := mA H
         clear H
         have aH : wr.cell? ⟨d, 0, none⟩ = some (.int .i64 g) := bc a 0
         have aI : wr.cell? ⟨d, 1, none⟩ = some (.slice j c.length l) := bc a 1
         have aJ := Zaa a.out 0
         have aK := Zaa a.out 1
         go_wp2_with (first | ((with_reducible refine Zal (f := 39) rfl ?_); refine Zbc (some 33) Tryd.func39 #[.int .i64 a1, .int .i64 b] ?_; (with_reducible refine (Zaq.calls a1 b true _ ab.out).mono ?_); rintro e w' ⟨rfl, ⟨nd, rfl⟩⟩; refine ⟨_, rfl, ?_⟩) | (go_at_call 39; (with_reducible refine (Zaq.calls i b false _ ag.out).mono ?_); rintro e w' ⟨rfl, ⟨nd, rfl⟩⟩; have y : 0 ≤ (b : Int) := ofD; have z : b < (c.length : Int) := ofD; obtain ⟨al, W, n⟩ := zK Z.out b y z; cases W; replace n := (HB.out.cell (wB w n)).trans n; replace y := eq_true y; replace z := eq_true z) | ((with_reducible refine Zal (f := 37) rfl ?_); refine Zbc (some 52) Tryd.func37 #[.int .i64 b] ?_; (with_reducible refine (Zba.calls b ah _ aM.out).mono ?_); rintro e w' ⟨rfl, ⟨nd, rfl⟩⟩; refine ⟨_, rfl, ?_⟩))
         go_roundg k4
         case measure => have := o.out; have := p.out; have := s.out; have := u.out; omega
         case rel => exact ⟨(Go.bits .or .i64 i ah), (true), (wrap64 (b + 1)), (eW), (eW), (eW), H', ⟨by have := o.out; have := p.out; have := s.out; have := u.out; omega⟩, ⟨bP a.out⟩, ⟨bW⟩⟩
mutual
def Za0.l0 : Nat → Int → Int → Int → List Int → Int → Int → Int → List (List Int) → Option (Int × Int × Int)
 | 0, _, _, _, _, _, _, _, _ => none
 | k + 1, x8, h, e, g, a, b, c, d => (Za4.f a b c d).bind fun i => (if h < i then ((Zaq.f x8 h).bind fun j => (if j = true then ((Zaw.f k a b c d h).bind fun l => (Za0.l1 k x8 h l 0 e g a b c d)) else (Za0.l0 k x8 (wrap64 (h + 1)) e g a b c d))) else (some (0, 0, 4)))
def Za0.l1 : Nat → Int → Int → List Bool → Int → Int → List Int → Int → Int → Int → List (List Int) → Option (Int × Int × Int)
 | 0, _, _, _, _, _, _, _, _, _, _ => none
 | k + 1, x8, i, j, h, a, b, c, d, e, g => if h < 256 then (if 0 ≤ h then (if h < (j.length : Int) then (if rdOf false j h = true then ((Zak.f k a b h).bind fun l => (if l = true then (Za0.l1 k x8 i j (wrap64 (h + 1)) a b c d e g) else (some (i, h, 0)))) else (Za0.l1 k x8 i j (wrap64 (h + 1)) a b c d e g)) else (none)) else (none)) else (Za0.l0 k x8 (wrap64 (i + 1)) a b c d e g)
end
def Za0.f (k : Nat) (e : Int) (g : List Int) (a : Int) (b : Int) (c : Int) (d : List (List Int)) : Option (Int × Int × Int) := (Zby.f k e g a b c d).bind fun h => (if h = 0 then ((Zaj.f k a b c d).bind fun i => (Za0.l0 k i.1 0 e g a b c d)) else (some (0, 0, h)))
theorem Za0.calls (k : Nat) (q : Int) (y : Option Addr) (z : Nat) (n : List Int) (d : Int) (g : Int) (i : Int) (r : Option Addr) (s : Nat) (c : List (List Int)) (r1 : Int) (r2 : Int) (r3 : Int) (w : World) (Y : Kd.C (Kd.int .i64) w y n.length n) (Z : n.length ≤ z) (aa : Kd.C (Kd.slice 2 (Kd.int .i64)) w r c.length c) (ab : c.length ≤ s) (h : Za0.f k q n d g i c = some (r1, r2, r3)) :
  Calls Tryd.prog 18 #[.agg #[.int .i64 q, .slice y n.length z], .agg #[.int .i64 d, .int .i64 g, .int .i64 i, .slice r c.length s]] w fun e w' => e = .returned (.tuple #[.int .i64 r1, .int .i64 r2, .int .i64 r3]) ∧ Below w.heap.size w w' := by
 have b9 := Tryd.underlying32
 have ca := Tryd.underlying34
 have L := mA Y
 have M := mA Z
 clear Y Z
 have B := mA aa
 have D := mA ab
 clear aa ab
 have HB := mA (Below.refl w.heap.size w)
 unfold Za0.f at h
 have H := h
 clear h
 obtain ⟨G, A3, H⟩ := bA H
 by_cases c4 : G = 0; rotate_left
 ·rw [if_neg c4] at H
  have aP : (G == 0) = false := beq_eq_false_iff_ne.mpr c4
  have aQ : (G != 0) = true := bne_iff_ne.mpr c4
  simp only [Option.some.injEq, Prod.mk.injEq] at H
  obtain ⟨rfl, rfl, rfl⟩ := H
  go_enter Tryd.func18, Tryd.ntmps18
  go_wp2_with (first | ((with_reducible refine Zan (N := 2) rfl ?_); refine boxS (N := 2) (cs := #[.int .i64 q, .slice y n.length z]) (t := 32) ?_; intro E hg cj hbox hb; have b := mA (hbox); have aW := geW (w := w) hg; have aX := geW (w := w) hg; replace HB := mA (Zac (bW) hb); clear hb hbox hg) | ((with_reducible refine Zan (N := 3) rfl ?_); refine boxS (N := 3) (cs := #[.int .i64 d, .int .i64 g, .int .i64 i, .slice r c.length s]) (t := 34) ?_; intro o hg ck hbox hb; have a := mA (hbox); have aY := geW (w := w) hg; have aZ := geW (w := w) hg; replace HB := mA (Zac (bW) hb); have l := mA (neB hg b); have m := mA (neC hg b); replace b := mA (blkB b.out hb); clear hb hbox hg; have bU := l.out; have bV := m.out; obtain ⟨bf, bg⟩ := Zcg b.out; obtain ⟨bh, bi⟩ := frz2 b.out; obtain ⟨bj, bk, bl, bm⟩ := Zbk a.out; obtain ⟨bn, bo, bp, bq⟩ := frz4 a.out) | ((with_reducible refine Zal (f := 35) rfl ?_); refine Zbc (some 15) Tryd.func35 #[.agg #[.int .i64 q, .slice y n.length z], .agg #[.int .i64 d, .int .i64 g, .int .i64 i, .slice r c.length s]] ?_; (with_reducible refine (Zby.calls k q _ _ n d g i _ _ c G _ ?side1 ?side2 ?side3 ?side4 A3.out).mono ?_); (case side1 => exact cP (zC L.out HB.out)); (case side2 => exact M.out); (case side3 => exact cP (zC B.out HB.out)); (case side4 => exact D.out); rintro e cl ⟨rfl, hb⟩; refine ⟨_, rfl, ?_⟩; replace b := mA (blkB b.out hb); replace a := mA (blkB a.out hb); replace HB := mA (Zac (bW) hb); (try clear hb); (try clear hb2); (try clear hk); (try clear hi)))
  go_ret3
  exact ⟨eW, bW⟩
 rw [if_pos c4] at H
 have aP : (G == 0) = true := beq_iff_eq.mpr c4
 have aQ : (G != 0) = false := bne_eq_false_iff_eq.mpr c4
 clear c4
 obtain ⟨⟨I, a5⟩, A5, H⟩ := bA H
 try dsimp only at H
 have H' := mA H
 clear H
 go_enter Tryd.func18, Tryd.ntmps18
 go_wp2_with (first | ((with_reducible refine Zan (N := 2) rfl ?_); refine boxS (N := 2) (cs := #[.int .i64 q, .slice y n.length z]) (t := 32) ?_; intro E hg w6 hbox hb; have b := mA (hbox); have aW := geW (w := w) hg; have aX := geW (w := w) hg; replace HB := mA (Zac (bW) hb); clear hb hbox hg) | ((with_reducible refine Zan (N := 3) rfl ?_); refine boxS (N := 3) (cs := #[.int .i64 d, .int .i64 g, .int .i64 i, .slice r c.length s]) (t := 34) ?_; intro o hg w7 hbox hb; have a := mA (hbox); have aY := geW (w := w) hg; have aZ := geW (w := w) hg; replace HB := mA (Zac (bW) hb); have l := mA (neB hg b); have m := mA (neC hg b); replace b := mA (blkB b.out hb); clear hb hbox hg; have cb := l.out; have cc := m.out; obtain ⟨aR, aS⟩ := Zcg b.out; obtain ⟨aT, aU⟩ := frz2 b.out; obtain ⟨ah, ai, aj, ak⟩ := Zbk a.out; obtain ⟨al, am, an, ao⟩ := frz4 a.out) | ((with_reducible refine Zal (f := 35) rfl ?_); refine Zbc (some 15) Tryd.func35 #[.agg #[.int .i64 q, .slice y n.length z], .agg #[.int .i64 d, .int .i64 g, .int .i64 i, .slice r c.length s]] ?_; (with_reducible refine (Zby.calls k q _ _ n d g i _ _ c G _ ?side1 ?side2 ?side3 ?side4 A3.out).mono ?_); (case side1 => exact cP (zC L.out HB.out)); (case side2 => exact M.out); (case side3 => exact cP (zC B.out HB.out)); (case side4 => exact D.out); rintro e cm ⟨rfl, hb⟩; refine ⟨_, rfl, ?_⟩; replace b := mA (blkB b.out hb); replace a := mA (blkB a.out hb); replace HB := mA (Zac (bW) hb); (try clear hb); (try clear hb2); (try clear hk); (try clear hi); obtain ⟨ap, aq, ar, au⟩ := Zbk a.out; obtain ⟨av, aw, ax, ay⟩ := frz4 a.out) | ((with_reducible refine Zal (f := 46) rfl ?_); refine Zbc (some 21) Tryd.func46 #[.agg #[.int .i64 d, .int .i64 g, .int .i64 i, .slice r c.length s]] ?_; (with_reducible refine (Zaj.calls k d g i _ _ c I a5 _ ?side1 ?side2 A5.out).mono ?_); (case side1 => exact cP (zC B.out HB.out)); (case side2 => exact D.out); rintro e cn ⟨rfl, hb⟩; refine ⟨_, rfl, ?_⟩; replace b := mA (blkB b.out hb); replace a := mA (blkB a.out hb); replace HB := mA (Zac (bW) hb); (try clear hb); (try clear hb2); (try clear hk); (try clear hi)))
 go_loopg [10] k (fun kq v10 w' => ∃ (p : Int), v10 = .int .i64 p ∧ Zab (Za0.l0 kq I p q n d g i c = some (r1, r2, r3)) ∧ Zab (kq ≤ k) ∧ Zab (w'.heap[E]? = some (.cells #[.int .i64 q, (.slice y n.length z)] 32 (0, 0))) ∧ Zab (w'.heap[o]? = some (.cells #[.int .i64 d, .int .i64 g, .int .i64 i, (.slice r c.length s)] 34 (0, 0))) ∧ Zab (Below w.heap.size w w'))
 case atStart => exact ⟨(0), (eW), H', ⟨Nat.le_refl _⟩, ⟨bP b.out⟩, ⟨bP a.out⟩, ⟨bW⟩⟩
 case round =>
  clear H' aP aQ ah ai aj ak ap aq ar au aR aS al am an ao av aw ax ay aT aU
  obtain ⟨p, rfl, HA, K, b, a, HB⟩ := hrel
  cases gk with
  | zero => exact absurd HA.out (by simp [Za0.l0])
  | succ k1 =>
   have H := HA.out
   clear HA
   simp only [Za0.l0] at H
   obtain ⟨X, aV, H⟩ := bA H
   by_cases T : p < X; rotate_left
   ·rw [if_neg T] at H
    have ac := dF T
    clear T
    simp only [Option.some.injEq, Prod.mk.injEq] at H
    obtain ⟨rfl, rfl, rfl⟩ := H
    have bX := m.out
    have bY := l.out
    have br : wr.cell? ⟨o, 0, none⟩ = some (.int .i64 d) := bc a 0
    have bs : wr.cell? ⟨o, 1, none⟩ = some (.int .i64 g) := bc a 1
    have bu : wr.cell? ⟨o, 2, none⟩ = some (.int .i64 i) := bc a 2
    have bv : wr.cell? ⟨o, 3, none⟩ = some (.slice r c.length s) := bc a 3
    have bw := Zaa a.out 0
    have bx := Zaa a.out 1
    have bz := Zaa a.out 2
    have bB := Zaa a.out 3
    go_wp2_with (first | ((with_reducible refine Zal (f := 47) rfl ?_); refine Zbc (some 26) Tryd.func47 #[.agg #[.int .i64 d, .int .i64 g, .int .i64 i, .slice r c.length s]] ?_; (with_reducible refine (Za4.calls d g i _ _ c X _ ?side1 ?side2 aV.out).mono ?_); (case side1 => exact cP (zC B.out HB.out)); (case side2 => exact D.out); rintro e co ⟨rfl, hb⟩; refine ⟨_, rfl, ?_⟩; replace b := mA (blkB b.out hb); replace a := mA (blkB a.out hb); replace HB := mA (Zac (bW) hb); (try clear hb); (try clear hb2); (try clear hk); (try clear hi)))
    go_ret3
    exact ⟨eW, bW⟩
   rw [if_pos T] at H
   have ac := dT T
   clear T
   obtain ⟨a6, a2, H⟩ := bA H
   by_cases ad : a6 = true; rotate_left
   ·replace ad := Bool.eq_false_iff.mpr ad
    subst ad
    rw [iF] at H
    have H' := mA H
    clear H
    have bZ := m.out
    have b0 := l.out
    have bC : wr.cell? ⟨o, 0, none⟩ = some (.int .i64 d) := bc a 0
    have bD : wr.cell? ⟨o, 1, none⟩ = some (.int .i64 g) := bc a 1
    have bE : wr.cell? ⟨o, 2, none⟩ = some (.int .i64 i) := bc a 2
    have bF : wr.cell? ⟨o, 3, none⟩ = some (.slice r c.length s) := bc a 3
    have bG := Zaa a.out 0
    have bH := Zaa a.out 1
    have bI := Zaa a.out 2
    have bJ := Zaa a.out 3
    go_wp2_with (first | ((with_reducible refine Zal (f := 47) rfl ?_); refine Zbc (some 26) Tryd.func47 #[.agg #[.int .i64 d, .int .i64 g, .int .i64 i, .slice r c.length s]] ?_; (with_reducible refine (Za4.calls d g i _ _ c X _ ?side1 ?side2 aV.out).mono ?_); (case side1 => exact cP (zC B.out HB.out)); (case side2 => exact D.out); rintro e cp ⟨rfl, hb⟩; refine ⟨_, rfl, ?_⟩; replace b := mA (blkB b.out hb); replace a := mA (blkB a.out hb); replace HB := mA (Zac (bW) hb); (try clear hb); (try clear hb2); (try clear hk); (try clear hi)) | ((with_reducible refine Zal (f := 39) rfl ?_); refine Zbc (some 32) Tryd.func39 #[.int .i64 I, .int .i64 p] ?_; (with_reducible refine (Zaq.calls I p false _ a2.out).mono ?_); rintro e w' ⟨rfl, ⟨nd, rfl⟩⟩; refine ⟨_, rfl, ?_⟩))
    go_roundg k1
    case measure => have := K.out; omega
    case rel => exact ⟨(wrap64 (p + 1)), (eW), H', ⟨by have := K.out; omega⟩, ⟨bP b.out⟩, ⟨bP a.out⟩, ⟨bW⟩⟩
   subst ad
   rw [if_pos rfl] at H
   obtain ⟨J, bT, H⟩ := bA H
   have H' := mA H
   clear H
   have b1 := m.out
   have b2 := l.out
   have az : wr.cell? ⟨o, 0, none⟩ = some (.int .i64 d) := bc a 0
   have aA : wr.cell? ⟨o, 1, none⟩ = some (.int .i64 g) := bc a 1
   have aB : wr.cell? ⟨o, 2, none⟩ = some (.int .i64 i) := bc a 2
   have aC : wr.cell? ⟨o, 3, none⟩ = some (.slice r c.length s) := bc a 3
   have aD := Zaa a.out 0
   have aE := Zaa a.out 1
   have aF := Zaa a.out 2
   have aG := Zaa a.out 3
   go_wp2_with (first | ((with_reducible refine Zal (f := 47) rfl ?_); refine Zbc (some 26) Tryd.func47 #[.agg #[.int .i64 d, .int .i64 g, .int .i64 i, .slice r c.length s]] ?_; (with_reducible refine (Za4.calls d g i _ _ c X _ ?side1 ?side2 aV.out).mono ?_); (case side1 => exact cP (zC B.out HB.out)); (case side2 => exact D.out); rintro e cq ⟨rfl, hb⟩; refine ⟨_, rfl, ?_⟩; replace b := mA (blkB b.out hb); replace a := mA (blkB a.out hb); replace HB := mA (Zac (bW) hb); (try clear hb); (try clear hb2); (try clear hk); (try clear hi)) | ((with_reducible refine Zal (f := 39) rfl ?_); refine Zbc (some 32) Tryd.func39 #[.int .i64 I, .int .i64 p] ?_; (with_reducible refine (Zaq.calls I p true _ a2.out).mono ?_); rintro e w' ⟨rfl, ⟨nd, rfl⟩⟩; refine ⟨_, rfl, ?_⟩; obtain ⟨aH, aI, aJ, aK⟩ := Zbk a.out; obtain ⟨aL, aM, aN, aO⟩ := frz4 a.out) | ((with_reducible refine Zal (f := 48) rfl ?_); refine Zbc (some 36) Tryd.func48 #[.agg #[.int .i64 d, .int .i64 g, .int .i64 i, .slice r c.length s], .int .i64 p] ?_; (with_reducible refine (Zaw.calls k1 d g i _ _ c p J _ ?side1 ?side2 bT.out).mono ?_); (case side1 => exact cP (zC B.out (bW))); (case side2 => exact D.out); rintro e cr ⟨a7, rfl, a3, hb⟩; refine ⟨_, rfl, ?_⟩; have a0 := mA (zQ a3 (Zao (bW))); replace b := mA (blkB b.out hb); replace a := mA (blkB a.out hb); replace HB := mA (Zac (bW) hb); (try clear hb); (try clear hb2); (try clear hk); (try clear hi); (try clear a3)))
   go_loopg [12] k1 (fun kq v12 w' => ∃ (j : Int), v12 = .int .i64 j ∧ Zab (Za0.l1 kq I p J j q n d g i c = some (r1, r2, r3)) ∧ Zab (kq ≤ k1) ∧ Zab (Kd.R Kd.bool 4 w' w.heap.size (fun _ => True) a7 J) ∧ Zab (w'.heap[E]? = some (.cells #[.int .i64 q, (.slice y n.length z)] 32 (0, 0))) ∧ Zab (w'.heap[o]? = some (.cells #[.int .i64 d, .int .i64 g, .int .i64 i, (.slice r c.length s)] 34 (0, 0))) ∧ Zab (Below w.heap.size w w'))
   case atStart => exact ⟨(0), (eW), H', ⟨Nat.le_refl _⟩, ⟨rP a0.out⟩, ⟨bP b.out⟩, ⟨bP a.out⟩, ⟨bW⟩⟩
   case round =>
    clear H' ac az aA aB aC aH aI aJ aK aD aE aF aG aL aM aN aO
    obtain ⟨j, rfl, HA, U, u, b, a, HB⟩ := hrel
    cases gk with
    | zero => exact absurd HA.out (by simp [Za0.l1])
    | succ k2 =>
     have H := HA.out
     clear HA
     simp only [Za0.l1] at H
     by_cases W : j < 256; rotate_left
     ·rw [if_neg W] at H
      have a1 := dF W
      clear W
      have H' := mA H
      clear H
      go_wp2
      go_roundg k2
      case measure => have := K.out; have := U.out; omega
      case rel => exact ⟨(wrap64 (p + 1)), (eW), H', ⟨by have := K.out; have := U.out; omega⟩, ⟨bP b.out⟩, ⟨bP a.out⟩, ⟨bW⟩⟩
     rw [if_pos W] at H
     have a1 := dT W
     clear W
     obtain ⟨b3, H⟩ := gE H
     obtain ⟨b4, H⟩ := gE H
     obtain ⟨a8, O⟩ := nm (rdOf false J j)
     rw [← O.out] at H
     by_cases ae : a8 = true; rotate_left
     ·replace ae := Bool.eq_false_iff.mpr ae
      subst ae
      rw [iF] at H
      have H' := mA H
      clear H
      obtain ⟨cd, ce, a9⟩ := zH u.out
      subst a9
      have v : 0 ≤ (j : Int) := ofD
      have x : j < (J.length : Int) := ofD
      obtain ⟨af, P, A⟩ := zP (zF u.out).2.2 j v x
      (try rw [← O.out] at A)
      cases P
      replace v := eq_true v
      replace x := eq_true x
      go_wp2
      go_roundg k2
      case measure => have := K.out; have := U.out; omega
      case rel => exact ⟨(wrap64 (j + 1)), (eW), H', ⟨by have := K.out; have := U.out; omega⟩, ⟨rP u.out⟩, ⟨bP b.out⟩, ⟨bP a.out⟩, ⟨bW⟩⟩
     subst ae
     rw [if_pos rfl] at H
     obtain ⟨ba, a4, H⟩ := bA H
     by_cases ag : ba = true; rotate_left
     ·replace ag := Bool.eq_false_iff.mpr ag
      subst ag
      rw [iF] at H
      simp only [Option.some.injEq, Prod.mk.injEq] at H
      obtain ⟨rfl, rfl, rfl⟩ := H
      obtain ⟨cf, cg, bb⟩ := zH u.out
      subst bb
      have v : 0 ≤ (j : Int) := ofD
      have x : j < (J.length : Int) := ofD
      obtain ⟨af, P, A⟩ := zP (zF u.out).2.2 j v x
      (try rw [← O.out] at A)
      cases P
      replace v := eq_true v
      replace x := eq_true x
      have b5 := l.out
      have b6 := m.out
      have bK : wr.cell? ⟨E, 0, none⟩ = some (.int .i64 q) := bc b 0
      have bL : wr.cell? ⟨E, 1, none⟩ = some (.slice y n.length z) := bc b 1
      have bM := Zaa b.out 0
      have bN := Zaa b.out 1
      go_wp2_with (first | (go_at_call 49; (with_reducible refine (Zak.calls k2 q _ _ n j false _ ?side1 ?side2 a4.out).mono ?_); (case side1 => exact cP (zC L.out HB.out)); (case side2 => exact M.out); rintro e ct ⟨rfl, hb⟩; replace u := mA (zG (rP u.out) hb); replace b := mA (blkB b.out hb); replace a := mA (blkB a.out hb); replace HB := mA (Zac (bW) hb); (try clear hb); (try clear hb2); (try clear hk); (try clear hi)))
      go_ret3
      exact ⟨eW, bW⟩
     subst ag
     rw [if_pos rfl] at H
     have H' := mA H
     clear H
     obtain ⟨ch, ci, bd⟩ := zH u.out
     subst bd
     have v : 0 ≤ (j : Int) := ofD
     have x : j < (J.length : Int) := ofD
     obtain ⟨af, P, A⟩ := zP (zF u.out).2.2 j v x
     (try rw [← O.out] at A)
     cases P
     replace v := eq_true v
     replace x := eq_true x
     have b7 := l.out
     have b8 := m.out
     have bO : wr.cell? ⟨E, 0, none⟩ = some (.int .i64 q) := bc b 0
     have bQ : wr.cell? ⟨E, 1, none⟩ = some (.slice y n.length z) := bc b 1
     have bR := Zaa b.out 0
     have bS := Zaa b.out 1
     go_wp2_with (first | (go_at_call 49; (with_reducible refine (Zak.calls k2 q _ _ n j true _ ?side1 ?side2 a4.out).mono ?_); (case side1 => exact cP (zC L.out HB.out)); (case side2 => exact M.out); rintro e cu ⟨rfl, hb⟩; replace u := mA (zG (rP u.out) hb); replace b := mA (blkB b.out hb); replace a := mA (blkB a.out hb); replace HB := mA (Zac (bW) hb); (try clear hb); (try clear hb2); (try clear hk); (try clear hi)))
     go_roundg k2
     case measure => have := K.out; have := U.out; omega
     case rel => exact ⟨(wrap64 (j + 1)), (eW), H', ⟨by have := K.out; have := U.out; omega⟩, ⟨rP u.out⟩, ⟨bP b.out⟩, ⟨bP a.out⟩, ⟨bW⟩⟩
mutual
def Zar.j0 : Nat → Bool → Int → List Int → Option (Bool)
 | 0, _, _, _ => none
 | k + 1, d, b, a => if d = true then (some false) else ((Za1.f k a).bind fun c => (Zar.l0 k c (c.length : Int) 0 b a))
def Zar.l0 : Nat → List Int → Int → Int → Int → List Int → Option (Bool)
 | 0, _, _, _, _, _ => none
 | k + 1, c, e, a, d, b => if a < e then (if 0 ≤ a then (if a < (c.length : Int) then (if a < (b.length : Int) then (if (rd c a) = (rd b a) then ((Zcz.f (rd c a) a).bind fun g => (if g = true then (Zar.l0 k c e (wrap64 (a + 1)) d b) else (some false))) else (some false)) else (none)) else (none)) else (none)) else (some true)
end
def Zar.f (k : Nat) (a : Int) (b : List Int) : Option (Bool) := (Zbn.f a 0 8).bind fun c => (if c = true then ((Zbi.f b).bind fun d => (if d = a then ((Zcv.f b).bind fun e => (Zar.j0 k (!e) a b)) else (Zar.j0 k true a b))) else (Zar.j0 k true a b))
def Zar.T1 : Bool × List (List Nat × List Nat) := (true, [([], []), ([0], [0]), ([1], [1]), ([2], [2]), ([3, 2], [3]), ([4], [4]), ([5, 4], [4, 5]), ([6, 4, 4], [4, 6]), ([4], [4]), ([8, 4], [4, 8]), ([7, 9, 4], [4, 7, 9]), ([4, 10], [4, 10]), ([11, 7], [11]), ([12], [12]), ([13, 12], [12, 13]), ([14, 12, 12], [12, 14]), ([15, 12], [12, 15]), ([12, 16], [12, 16])])
def Zar.B1 : List Nat := [0, 1, 3, 7, 15, 31, 63, 127, 31, 287, 1023, 2047, 4095, 8191, 16383, 32767, 65535, 131071]
theorem Zar.tab1 : rtab .any (opsOf Tryd.f72 1) = Zar.T1 := by kernel_rfl
theorem Zar.bits1 : waitsOk Zar.T1.2 Zar.B1 = true := by kernel_rfl
theorem Zar.calls (k : Nat) (d : Int) (l : Option Addr) (m : Nat) (c : List Int) (r : Bool) (w : World) (L : Kd.C (Kd.int .i64) w l c.length c) (M : c.length ≤ m) (h : Zar.f k d c = some r) (hTab : Tab w) :
  Calls Tryd.prog 72 #[.agg #[.int .i64 d, .slice l c.length m]] w fun e w' => e = .returned (.bool r) ∧ Below w.heap.size w w' := by
 have HTab := mA hTab
 clear hTab
 have aL := Tryd.underlying32
 have v := mA L
 have y := mA M
 clear L M
 have HB := mA (Below.refl w.heap.size w)
 unfold Zar.f at h
 have H := h
 clear h
 have ab := mA H
 clear H
 go_enter Tryd.func72, Tryd.ntmps72
 go_upto_region 1 with (first | ((with_reducible refine Zan (N := 1) rfl ?_); refine boxS (N := 1) (cs := #[.int .i64 d, .slice l c.length m]) (t := 32) ?_; intro g hg w3 hbox hb; have a := mA (hbox); have aG := geW (w := w) hg; have aH := geW (w := w) hg; replace HB := mA (Zac (bW) hb); clear hb hbox hg))
 go_cut [22] (fun v22 wc => ∃ (kq : Nat) (z : Bool), v22 = .bool z ∧ Zab (Zar.j0 kq z d c = some r) ∧ Zab (kq ≤ k) ∧ Zab (wc.heap[g]? = some (.cells #[.int .i64 d, (.slice l c.length m)] 32 (0, 0))) ∧ Zab (Below w.heap.size w wc))
 case first =>
  have H := ab.out
  clear ab
  obtain ⟨al, A4, H⟩ := bA H
  by_cases c5 : al = true; rotate_left
  ·replace c5 := Bool.eq_false_iff.mpr c5
   subst c5
   rw [iF] at H
   have H' := mA H
   clear H
   try go_wp2
   replace a := mA (Zah a.out)
   replace HB := mA (Zbe HB.out)
   refine start_ (n := 18) (S := fun w' => w'.cell? ⟨g, 0, none⟩ = some (.int .i64 d) ∧ w'.cell? ⟨g, 1, none⟩ = some (.slice l c.length m)) (ds := []) #[false, false, false, false, false, false, false, false, false, false, false, false, false, false, false, false, false, false] (by kernel_rfl) rfl rfl ⟨bc a 0, bc a 1⟩ (fun hHeld => ?_); refine Zc6 Zar.tab1 Zar.bits1 (fun HT_ HW_ => ?_)
   generalize w3.drew = w12 at a HB hHeld ⊢
   refine Za6 (i := 0) (N := some 5) (Zau HT_.out (by kernel_rfl)) ?_
   refine takeS (i := 1) (N := some 6) (Zbw HT_.out HW_.out (by kernel_rfl)) hHeld ?_
   refine one_ (i := 2) (N := some 7) #[true, true, true, false, false, false, false, false, false, false, false, false, false, false, false, false, false, false] rfl rfl (Zcc HT_.out (by kernel_rfl)) (by decide) (fun K hK => ?_)
   refine goes_ Tryd.func94 (by kernel_rfl) rfl #[.int .i64 d, .int .i64 0, .int .i64 8] (by rfl) rfl rfl (by (try simp only [List.map_toArray, List.map_cons, List.map_nil]); first | done | rfl | (simp only [List.length_drop, List.length_take]; rfl)) ?_
   with_reducible refine (Zbn.calls d 0 8 false _ A4.out).mono ?_
   rintro e w' ⟨rfl, ⟨nd, rfl⟩⟩
   refine ⟨_, rfl, ?_⟩
   refine hK.out _ _ ⟨bc a 0, bc a 1⟩ (fun hHeld => ?_)
   clear hK K
   refine putS 7 ?_
   refine Za6 (i := 3) (N := some 8) (Zau HT_.out (by kernel_rfl)) ?_
   refine Za6 (i := 4) (N := some 9) (Zau HT_.out (by kernel_rfl)) ?_
   refine pureU (i := 5) (N := some 10) (Zau HT_.out (by kernel_rfl)) ?_
   refine pureU (i := 6) (N := some 11) (Zau HT_.out (by kernel_rfl)) ?_
   refine pureU (i := 7) (N := some 12) (Zau HT_.out (by kernel_rfl)) ?_
   refine pureU (i := 8) (N := some 13) (Zau HT_.out (by kernel_rfl)) ?_
   refine pureU (i := 9) (N := some 14) (Zau HT_.out (by kernel_rfl)) ?_
   refine pureU (i := 10) (N := some 15) (Zau HT_.out (by kernel_rfl)) ?_
   refine Za6 (i := 11) (N := some 16) (Zau HT_.out (by kernel_rfl)) ?_
   refine Za6 (i := 12) (N := some 17) (Zau HT_.out (by kernel_rfl)) ?_
   refine pureU (i := 13) (N := some 18) (Zau HT_.out (by kernel_rfl)) ?_
   refine pureU (i := 14) (N := some 19) (Zau HT_.out (by kernel_rfl)) ?_
   refine pureU (i := 15) (N := some 20) (Zau HT_.out (by kernel_rfl)) ?_
   refine pureU (i := 16) (N := some 21) (Zau HT_.out (by kernel_rfl)) ?_
   refine Za6 (i := 17) (N := some 22) (Zau HT_.out (by kernel_rfl)) ?_
   refine done_ (done_of HT_.out (by kernel_rfl)) ?_
   try go_wp2
   go_meet
   case rel => exact ⟨_, (true), (eW), H', ⟨by first | omega | exact Nat.le_refl _⟩, ⟨bP a.out⟩, ⟨bW⟩⟩
  subst c5
  rw [if_pos rfl] at H
  obtain ⟨x, A6, H⟩ := bA H
  by_cases c7 : x = d; rotate_left
  ·rw [if_neg c7] at H
   have B : (x == d) = false := beq_eq_false_iff_ne.mpr c7
   have am : (x != d) = true := bne_iff_ne.mpr c7
   (first | rw [B] | (simp only [Zci, i32_w]; rw [B]) | skip)
   have H' := mA H
   clear H
   try go_wp2
   replace a := mA (Zah a.out)
   replace HB := mA (Zbe HB.out)
   refine start_ (n := 18) (S := fun w' => w'.cell? ⟨g, 0, none⟩ = some (.int .i64 d) ∧ w'.cell? ⟨g, 1, none⟩ = some (.slice l c.length m)) (ds := []) #[false, false, false, false, false, false, false, false, false, false, false, false, false, false, false, false, false, false] (by kernel_rfl) rfl rfl ⟨bc a 0, bc a 1⟩ (fun hHeld => ?_); refine Zc6 Zar.tab1 Zar.bits1 (fun HT_ HW_ => ?_)
   generalize w3.drew = w11 at a HB hHeld ⊢
   refine Za6 (i := 0) (N := some 5) (Zau HT_.out (by kernel_rfl)) ?_
   refine takeS (i := 1) (N := some 6) (Zbw HT_.out HW_.out (by kernel_rfl)) hHeld ?_
   refine one_ (i := 2) (N := some 7) #[true, true, true, false, false, false, false, false, false, false, false, false, false, false, false, false, false, false] rfl rfl (Zcc HT_.out (by kernel_rfl)) (by decide) (fun K hK => ?_)
   refine goes_ Tryd.func94 (by kernel_rfl) rfl #[.int .i64 d, .int .i64 0, .int .i64 8] (by rfl) rfl rfl (by (try simp only [List.map_toArray, List.map_cons, List.map_nil]); first | done | rfl | (simp only [List.length_drop, List.length_take]; rfl)) ?_
   with_reducible refine (Zbn.calls d 0 8 true _ A4.out).mono ?_
   rintro e w' ⟨rfl, ⟨nd, rfl⟩⟩
   refine ⟨_, rfl, ?_⟩
   refine hK.out _ _ ⟨bc a 0, bc a 1⟩ (fun hHeld => ?_)
   clear hK K
   refine putS 7 ?_
   refine Za6 (i := 3) (N := some 8) (Zau HT_.out (by kernel_rfl)) ?_
   refine Za6 (i := 4) (N := some 9) (Zau HT_.out (by kernel_rfl)) ?_
   refine Za6 (i := 5) (N := some 10) (Zau HT_.out (by kernel_rfl)) ?_
   refine Za6 (i := 8) (N := some 13) (Zau HT_.out (by kernel_rfl)) ?_
   refine takeS (i := 6) (N := some 11) (Zbw HT_.out HW_.out (by kernel_rfl)) hHeld ?_
   refine takeS (i := 9) (N := some 14) (Zbw HT_.out HW_.out (by kernel_rfl)) hHeld ?_
   refine one_ (i := 7) (N := some 12) #[true, true, true, true, true, true, true, true, true, true, false, false, false, false, false, false, false, false] rfl rfl (Zcc HT_.out (by kernel_rfl)) (by decide) (fun K hK => ?_)
   refine goes_ Tryd.func97 (by kernel_rfl) rfl #[.slice l c.length m] (by rfl) rfl rfl (by (try simp only [List.map_toArray, List.map_cons, List.map_nil]); first | done | rfl | (simp only [List.length_drop, List.length_take]; rfl)) ?_
   with_reducible refine (Zbi.calls _ _ c x _ ?side1 ?side2 A6.out).mono ?_
   (case side1 => exact cP (zC v.out (bW)))
   (case side2 => exact y.out)
   rintro e w' ⟨rfl, ⟨nd, rfl⟩⟩
   refine ⟨_, rfl, ?_⟩
   refine hK.out _ _ ⟨bc a 0, bc a 1⟩ (fun hHeld => ?_)
   clear hK K
   refine putS 12 ?_
   refine Za6 (i := 10) (N := some 15) (Zau HT_.out (by kernel_rfl)) ?_
   refine Za6 (i := 11) (N := some 16) (Zau HT_.out (by kernel_rfl)) ?_
   refine Za6 (i := 12) (N := some 17) (Zau HT_.out (by kernel_rfl)) ?_
   refine pureU (i := 13) (N := some 18) (Zau HT_.out (by kernel_rfl)) ?_
   refine pureU (i := 14) (N := some 19) (Zau HT_.out (by kernel_rfl)) ?_
   refine pureU (i := 15) (N := some 20) (Zau HT_.out (by kernel_rfl)) ?_
   refine pureU (i := 16) (N := some 21) (Zau HT_.out (by kernel_rfl)) ?_
   refine Za6 (i := 17) (N := some 22) (Zau HT_.out (by kernel_rfl)) ?_
   refine done_ (done_of HT_.out (by kernel_rfl)) ?_
   try go_wp2
   go_meet
   case rel => exact ⟨_, (true), (eW), H', ⟨by first | omega | exact Nat.le_refl _⟩, ⟨bP a.out⟩, ⟨bW⟩⟩
  rw [if_pos c7] at H
  have B : (x == d) = true := beq_iff_eq.mpr c7
  have am : (x != d) = false := bne_eq_false_iff_eq.mpr c7
  clear c7
  (first | rw [B] | (simp only [Zci, i32_w]; rw [B]) | skip)
  obtain ⟨ac, A8, H⟩ := bA H
  have H' := mA H
  clear H
  try go_wp2
  replace a := mA (Zah a.out)
  replace HB := mA (Zbe HB.out)
  refine start_ (n := 18) (S := fun w' => w'.cell? ⟨g, 0, none⟩ = some (.int .i64 d) ∧ w'.cell? ⟨g, 1, none⟩ = some (.slice l c.length m)) (ds := []) #[false, false, false, false, false, false, false, false, false, false, false, false, false, false, false, false, false, false] (by kernel_rfl) rfl rfl ⟨bc a 0, bc a 1⟩ (fun hHeld => ?_); refine Zc6 Zar.tab1 Zar.bits1 (fun HT_ HW_ => ?_)
  generalize w3.drew = w9 at a HB hHeld ⊢
  refine Za6 (i := 0) (N := some 5) (Zau HT_.out (by kernel_rfl)) ?_
  refine takeS (i := 1) (N := some 6) (Zbw HT_.out HW_.out (by kernel_rfl)) hHeld ?_
  refine one_ (i := 2) (N := some 7) #[true, true, true, false, false, false, false, false, false, false, false, false, false, false, false, false, false, false] rfl rfl (Zcc HT_.out (by kernel_rfl)) (by decide) (fun K hK => ?_)
  refine goes_ Tryd.func94 (by kernel_rfl) rfl #[.int .i64 d, .int .i64 0, .int .i64 8] (by rfl) rfl rfl (by (try simp only [List.map_toArray, List.map_cons, List.map_nil]); first | done | rfl | (simp only [List.length_drop, List.length_take]; rfl)) ?_
  with_reducible refine (Zbn.calls d 0 8 true _ A4.out).mono ?_
  rintro e w' ⟨rfl, ⟨nd, rfl⟩⟩
  refine ⟨_, rfl, ?_⟩
  refine hK.out _ _ ⟨bc a 0, bc a 1⟩ (fun hHeld => ?_)
  clear hK K
  refine putS 7 ?_
  refine Za6 (i := 3) (N := some 8) (Zau HT_.out (by kernel_rfl)) ?_
  refine Za6 (i := 4) (N := some 9) (Zau HT_.out (by kernel_rfl)) ?_
  refine Za6 (i := 5) (N := some 10) (Zau HT_.out (by kernel_rfl)) ?_
  refine Za6 (i := 8) (N := some 13) (Zau HT_.out (by kernel_rfl)) ?_
  refine takeS (i := 6) (N := some 11) (Zbw HT_.out HW_.out (by kernel_rfl)) hHeld ?_
  refine takeS (i := 9) (N := some 14) (Zbw HT_.out HW_.out (by kernel_rfl)) hHeld ?_
  refine one_ (i := 7) (N := some 12) #[true, true, true, true, true, true, true, true, true, true, false, false, false, false, false, false, false, false] rfl rfl (Zcc HT_.out (by kernel_rfl)) (by decide) (fun K hK => ?_)
  refine goes_ Tryd.func97 (by kernel_rfl) rfl #[.slice l c.length m] (by rfl) rfl rfl (by (try simp only [List.map_toArray, List.map_cons, List.map_nil]); first | done | rfl | (simp only [List.length_drop, List.length_take]; rfl)) ?_
  with_reducible refine (Zbi.calls _ _ c x _ ?side1 ?side2 A6.out).mono ?_
  (case side1 => exact cP (zC v.out (bW)))
  (case side2 => exact y.out)
  rintro e w' ⟨rfl, ⟨nd, rfl⟩⟩
  refine ⟨_, rfl, ?_⟩
  refine hK.out _ _ ⟨bc a 0, bc a 1⟩ (fun hHeld => ?_)
  clear hK K
  refine putS 12 ?_
  refine Za6 (i := 10) (N := some 15) (Zau HT_.out (by kernel_rfl)) ?_
  refine Za6 (i := 11) (N := some 16) (Zau HT_.out (by kernel_rfl)) ?_
  refine Za6 (i := 12) (N := some 17) (Zau HT_.out (by kernel_rfl)) ?_
  refine Za6 (i := 13) (N := some 18) (Zau HT_.out (by kernel_rfl)) ?_
  refine takeS (i := 14) (N := some 19) (Zbw HT_.out HW_.out (by kernel_rfl)) hHeld ?_
  refine one_ (i := 15) (N := some 20) #[true, true, true, true, true, true, true, true, true, true, true, true, true, true, true, true, false, false] rfl rfl (Zcc HT_.out (by kernel_rfl)) (by decide) (fun K hK => ?_)
  refine goes_ Tryd.func119 (by kernel_rfl) rfl #[.slice l c.length m] (by rfl) rfl rfl (by (try simp only [List.map_toArray, List.map_cons, List.map_nil]); first | done | rfl | (simp only [List.length_drop, List.length_take]; rfl)) ?_
  with_reducible refine (Zcv.calls _ _ c ac _ ?side1 ?side2 A8.out).mono ?_
  (case side1 => exact cP (zC v.out (bW)))
  (case side2 => exact y.out)
  rintro e aN ⟨rfl, hb⟩
  refine ⟨_, rfl, ?_⟩
  replace a := mA (blkB a.out hb)
  replace HB := mA (Zac (bW) hb)
  (try clear hb)
  (try clear hb2)
  (try clear hk)
  (try clear hi)
  refine hK.out _ _ ⟨bc a 0, bc a 1⟩ (fun hHeld => ?_)
  clear hK K
  refine putS 20 ?_
  refine Za6 (i := 16) (N := some 21) (Zau HT_.out (by kernel_rfl)) ?_
  refine Za6 (i := 17) (N := some 22) (Zau HT_.out (by kernel_rfl)) ?_
  refine done_ (done_of HT_.out (by kernel_rfl)) ?_
  try go_wp2
  go_meet
  case rel => exact ⟨_, (!ac), (eW), H', ⟨by first | omega | exact Nat.le_refl _⟩, ⟨bP a.out⟩, ⟨bW⟩⟩
 case rest =>
  clear ab
  obtain ⟨kq, z, rfl, HA, ah, a, HB⟩ := hcut
  cases kq with
  | zero => exact absurd HA.out (by simp [Zar.j0])
  | succ ad =>
   have H := HA.out
   clear HA
   simp only [Zar.j0] at H
   by_cases O : z = true
   ·subst O
    rw [if_pos rfl] at H
    obtain rfl := oI H
    go_wp2
    go_ret
    exact ⟨eW, bW⟩
   replace O := Bool.eq_false_iff.mpr O
   subst O
   rw [iF] at H
   obtain ⟨o, aF, H⟩ := bA H
   have H' := mA H
   clear H
   have X : wc.cell? ⟨g, 0, none⟩ = some (.int .i64 d) := bc a 0
   have Y : wc.cell? ⟨g, 1, none⟩ = some (.slice l c.length m) := bc a 1
   have Z := Zaa a.out 0
   have aa := Zaa a.out 1
   go_wp2_with (first | ((with_reducible refine Zal (f := 120) rfl ?_); refine Zbc (some 25) Tryd.func120 #[.slice l c.length m] ?_; (with_reducible refine (Za1.calls ad _ _ c o _ ?side1 ?side2 aF.out (tabW HTab.out)).mono ?_); (case side1 => exact cP (zC v.out HB.out)); (case side2 => exact y.out); rintro e aO ⟨aM, rfl, ai, hb⟩; refine ⟨_, rfl, ?_⟩; have P := mA (zQ ai (Zao (bW))); replace a := mA (blkB a.out hb); replace HB := mA (Zac (bW) hb); (try clear hb); (try clear hb2); (try clear hk); (try clear hi); (try clear ai); obtain ⟨an, ao, ap⟩ := zH P.out; subst ap))
   go_loopg [27] ad (fun kq v27 w' => ∃ (b : Int), v27 = .int .i64 b ∧ Zab (Zar.l0 kq o (o.length : Int) b d c = some r) ∧ Zab (kq ≤ ad) ∧ Zab (Kd.R (Kd.int .i64) 2 w' w.heap.size (fun _ => True) (.slice an o.length ao) o) ∧ Zab (w'.heap[g]? = some (.cells #[.int .i64 d, (.slice l c.length m)] 32 (0, 0))) ∧ Zab (Below w.heap.size w w'))
   case atStart => exact ⟨(0), (eW), H', ⟨Nat.le_refl _⟩, ⟨rP P.out⟩, ⟨bP a.out⟩, ⟨bW⟩⟩
   case round =>
    clear H' X Y Z aa
    obtain ⟨b, rfl, HA, aj, A, a, HB⟩ := hrel
    cases gk with
    | zero => exact absurd HA.out (by simp [Zar.l0])
    | succ k2 =>
     have H := HA.out
     clear HA
     simp only [Zar.l0] at H
     by_cases I : b < (o.length : Int); rotate_left
     ·rw [if_neg I] at H
      have ae := dF I
      clear I
      obtain rfl := oI H
      go_wp2
      go_ret
      exact ⟨eW, bW⟩
     rw [if_pos I] at H
     have ae := dT I
     clear I
     obtain ⟨aI, H⟩ := gE H
     obtain ⟨aJ, H⟩ := gE H
     obtain ⟨aK, H⟩ := gE H
     by_cases D : (rd o b) = (rd c b); rotate_left
     ·rw [if_neg D] at H
      have af : ((rd o b) == (rd c b)) = false := beq_eq_false_iff_ne.mpr D
      have ag : ((rd o b) != (rd c b)) = true := bne_iff_ne.mpr D
      obtain rfl := oI H
      have p : 0 ≤ (b : Int) := ofD
      have q : b < (o.length : Int) := ofD
      obtain ⟨T, E, J⟩ := zK (zF A.out).2.2 b p q
      cases E
      replace p := eq_true p
      replace q := eq_true q
      have ar : wr.cell? ⟨g, 0, none⟩ = some (.int .i64 d) := bc a 0
      have au : wr.cell? ⟨g, 1, none⟩ = some (.slice l c.length m) := bc a 1
      have av := Zaa a.out 0
      have aw := Zaa a.out 1
      have s : 0 ≤ (b : Int) := ofD
      have u : b < (c.length : Int) := ofD
      obtain ⟨U, G, j⟩ := zK v.out b s u
      cases G
      replace j := (HB.out.cell (wB w j)).trans j
      replace s := eq_true s
      replace u := eq_true u
      go_wp2
      go_ret
      exact ⟨eW, bW⟩
     rw [if_pos D] at H
     have af : ((rd o b) == (rd c b)) = true := beq_iff_eq.mpr D
     have ag : ((rd o b) != (rd c b)) = false := bne_eq_false_iff_eq.mpr D
     clear D
     obtain ⟨aq, ak, H⟩ := bA H
     by_cases W : aq = true; rotate_left
     ·replace W := Bool.eq_false_iff.mpr W
      subst W
      rw [iF] at H
      obtain rfl := oI H
      have p : 0 ≤ (b : Int) := ofD
      have q : b < (o.length : Int) := ofD
      obtain ⟨T, E, J⟩ := zK (zF A.out).2.2 b p q
      cases E
      replace p := eq_true p
      replace q := eq_true q
      have ax : wr.cell? ⟨g, 0, none⟩ = some (.int .i64 d) := bc a 0
      have ay : wr.cell? ⟨g, 1, none⟩ = some (.slice l c.length m) := bc a 1
      have az := Zaa a.out 0
      have aA := Zaa a.out 1
      have s : 0 ≤ (b : Int) := ofD
      have u : b < (c.length : Int) := ofD
      obtain ⟨U, G, j⟩ := zK v.out b s u
      cases G
      replace j := (HB.out.cell (wB w j)).trans j
      replace s := eq_true s
      replace u := eq_true u
      go_wp2_with (first | (go_at_call 77; (with_reducible refine (Zcz.calls (rd o b) b false _ ak.out).mono ?_); rintro e w' ⟨rfl, ⟨nd, rfl⟩⟩))
      go_ret
      exact ⟨eW, bW⟩
     subst W
     rw [if_pos rfl] at H
     have H' := mA H
     clear H
     have p : 0 ≤ (b : Int) := ofD
     have q : b < (o.length : Int) := ofD
     obtain ⟨T, E, J⟩ := zK (zF A.out).2.2 b p q
     cases E
     replace p := eq_true p
     replace q := eq_true q
     have aB : wr.cell? ⟨g, 0, none⟩ = some (.int .i64 d) := bc a 0
     have aC : wr.cell? ⟨g, 1, none⟩ = some (.slice l c.length m) := bc a 1
     have aD := Zaa a.out 0
     have aE := Zaa a.out 1
     have s : 0 ≤ (b : Int) := ofD
     have u : b < (c.length : Int) := ofD
     obtain ⟨U, G, j⟩ := zK v.out b s u
     cases G
     replace j := (HB.out.cell (wB w j)).trans j
     replace s := eq_true s
     replace u := eq_true u
     go_wp2_with (first | (go_at_call 77; (with_reducible refine (Zcz.calls (rd o b) b true _ ak.out).mono ?_); rintro e w' ⟨rfl, ⟨nd, rfl⟩⟩))
     go_roundg k2
     case measure => have := ah.out; have := aj.out; omega
     case rel => exact ⟨(wrap64 (b + 1)), (eW), H', ⟨by have := ah.out; have := aj.out; omega⟩, ⟨rP A.out⟩, ⟨bP a.out⟩, ⟨bW⟩⟩
theorem rdM_get {l : List S34} {k : Nat} (hk : k < l.length) : rd_T34 l (k : Int) = l[k] := by
  unfold rd_T34; rw [List.getD_eq_getElem?_getD, Int.toNat_natCast, List.getElem?_eq_getElem hk]; rfl
set_option maxHeartbeats 4000000 in
theorem idxM (g : Nat) (lb : Array Value) (eg : ∀ args w, (callFunc g args).run Tryd.prog w = .ok (.enter g args) w) (p : S34 → Bool) (A : Option Addr) (c : Nat) (l : List S34) (w : World) (hr : Kd.C k34 w A l.length l)
    (hp : ∀ (W : World) (x : S34) (A' : Option Addr) (c' : Nat), x ∈ l → Below w.heap.size w W → Kd.C (Kd.slice 2 (Kd.int .i64)) W A' x.f3.length x.f3 → x.f3.length ≤ c' → Calls Tryd.prog g (#[.agg #[.int .i64 x.f0, .int .i64 x.f1, .int .i64 x.f2, .slice A' x.f3.length c']] ++ lb) W fun e w' => e = .returned (.bool (p x)) ∧ Below W.heap.size W w') :
    Calls Tryd.prog 121 #[.slice A l.length c, .func (.func g) #[] lb] w fun e w' => e = .returned (.int .i64 (fidx p l)) ∧ Below w.heap.size w w' := by
  have hu := Tryd.underlying34
  have HR := Zab.mk hr
  have hlen : l.length ≤ 9223372036854775807 := hr.2.1
  clear hr
  have HP := Zab.mk hp
  clear hp
  go_enter Tryd.func121, Tryd.ntmps121
  go_wp2
  go_loopg [5, 8] l.length (fun gg _ s8 wr => ∃ kk : Nat, kk ≤ l.length ∧ l.length - kk ≤ gg ∧ s8 = .int .i64 kk ∧ Zab (Below w.heap.size w wr) ∧ Zab (∀ j (hj : j < kk) (hl : j < l.length), p l[j] = false))
  case atStart => exact ⟨0, Nat.zero_le _, by omega, rfl, ⟨Below.refl _ w⟩, ⟨fun j hj => absurd hj (Nat.not_lt_zero _)⟩⟩
  case round =>
    obtain ⟨kk, hkk, hg, rfl, BW, AS⟩ := hrel
    by_cases hlt : kk < l.length
    · have hltz : (kk : Int) < (l.length : Int) := by omega
      have h : 0 ≤ (kk : Int) := by omega
      obtain ⟨ad, A', c', e, hx, a, b, d, hlc, hin⟩ := at_T34 HR.out (kk : Int) h hltz
      cases e
      replace hx := (BW.out.cell (World.block_lt_of_cell? w _ hx)).trans hx
      replace a := (BW.out.cell (World.block_lt_of_cell? w _ a)).trans a
      replace b := (BW.out.cell (World.block_lt_of_cell? w _ b)).trans b
      replace d := (BW.out.cell (World.block_lt_of_cell? w _ d)).trans d
      rw [rdM_get hlt] at hx a b d hlc hin
      rw [Int.toNat_natCast] at hx a b d
      have hcall := HP.out wr l[kk] A' c' (List.getElem_mem hlt) BW.out (Kd.zC hin BW.out) hlc
      clear hlc hin
      cases hq : p l[kk] with
      | true =>
        rw [hq] at hcall
        have HQ := Zab.mk hq
        clear hq
        generalize hy : l[kk] = y at hx a b d hcall
        clear hy
        go_wp2_with (go_at_fn g; refine hcall.mono ?_; rintro e w' ⟨rfl, hb'⟩)
        go_ret
        exact ⟨by rw [fidx_hit hlt HQ.out (fun j hj => AS.out j hj _)]; rfl, Zac BW.out hb'⟩
      | false =>
        rw [hq] at hcall
        have HQ := Zab.mk hq
        clear hq
        generalize hy : l[kk] = y at hx a b d hcall
        clear hy
        go_wp2_with (go_at_fn g; refine hcall.mono ?_; rintro e w' ⟨rfl, hb'⟩)
        go_roundg (l.length - (kk + 1))
        case measure => omega
        case rel =>
          refine ⟨kk + 1, by omega, by omega, by go_num, ⟨Zac BW.out hb'⟩, ⟨fun j hj hl => ?_⟩⟩
          by_cases e : j = kk
          · subst e
            exact HQ.out
          · exact AS.out j (by omega) hl
    · have hltz : ¬ (kk : Int) < (l.length : Int) := by omega
      have hke : kk = l.length := by omega
      have HKE := Zab.mk hke
      clear hke
      go_wp2
      go_ret
      exact ⟨by rw [fidx_miss (fun j hj => AS.out j (by have := HKE.out; omega) hj)]; rfl, BW.out⟩
set_option maxHeartbeats 2000000 in
theorem conM (g : Nat) (lb : Array Value) (eg : ∀ args w, (callFunc g args).run Tryd.prog w = .ok (.enter g args) w) (p : S34 → Bool) (A : Option Addr) (c : Nat) (l : List S34) (w : World) (hr : Kd.C k34 w A l.length l)
    (hp : ∀ (W : World) (x : S34) (A' : Option Addr) (c' : Nat), x ∈ l → Below w.heap.size w W → Kd.C (Kd.slice 2 (Kd.int .i64)) W A' x.f3.length x.f3 → x.f3.length ≤ c' → Calls Tryd.prog g (#[.agg #[.int .i64 x.f0, .int .i64 x.f1, .int .i64 x.f2, .slice A' x.f3.length c']] ++ lb) W fun e w' => e = .returned (.bool (p x)) ∧ Below W.heap.size W w') :
    Calls Tryd.prog 73 #[.slice A l.length c, .func (.func g) #[] lb] w fun e w' => e = .returned (.bool (l.any p)) ∧ Below w.heap.size w w' := by
  have HI := Zab.mk (fun w0 (h0 : w0 = w) => h0 ▸ idxM g lb eg p A c l w hr hp)
  rw [← fidx_nonneg]
  clear hr hp
  go_enter Tryd.func73, Tryd.ntmps73
  go_wp2_with (go_at_call 121; refine (HI.out _ rfl).mono ?_; rintro e w' ⟨rfl, hb'⟩)
  go_ret
  exact ⟨rfl, hb'⟩
set_option maxHeartbeats 2000000 in
theorem over_1 (x : S34) (A : Option Addr) (c : Nat) (w : World) (hr : Kd.C (Kd.slice 2 (Kd.int .i64)) w A x.f3.length x.f3) (hc : x.f3.length ≤ c) :
    Calls Tryd.prog 74 #[.agg #[.int .i64 x.f0, .int .i64 x.f1, .int .i64 x.f2, .slice A x.f3.length c]] w fun e w' => e = .returned (.bool (!isAut x.f0 x.f1 x.f2 x.f3)) ∧ Below w.heap.size w w' := by
  have hu := Tryd.underlying34
  have HA := Zab.mk (fun W (hb : Below w.heap.size w W) => Zc9.calls x.f0 x.f1 x.f2 A c x.f3 _ W (Kd.zC hr hb) hc rfl)
  clear hr hc
  generalize isAut x.f0 x.f1 x.f2 x.f3 = b at HA ⊢
  go_enter Tryd.func74, Tryd.ntmps74
  go_wp2_with (go_at_call 56; refine (HA.out _ (by repeat (first | apply Zbf | apply Za7 | apply Zbe | exact Below.refl _ _))).mono ?_; rintro e w' ⟨rfl, hb'⟩)
  go_ret
  exact ⟨rfl, Zac (by repeat (first | apply Zbf | apply Za7 | apply Zbe | exact Below.refl _ _)) hb'⟩
set_option maxHeartbeats 2000000 in
theorem over_2 (L : Int) (b1 : Nat) (x : S34) (A : Option Addr) (c : Nat) (w : World) (h1 : w.cell? ⟨b1, 0, none⟩ = some (.int .i64 L)) (a : b1 < w.heap.size) :
    Calls Tryd.prog 75 #[.agg #[.int .i64 x.f0, .int .i64 x.f1, .int .i64 x.f2, .slice A x.f3.length c], .pointer (some ⟨b1, 0, none⟩)] w fun e w' => e = .returned (.bool (x.f0 != L)) ∧ Below w.heap.size w w' := by
  have hu := Tryd.underlying34
  have b := Tryd.underlying32
  have hne : b1 ≠ w.heap.size := by omega
  go_enter Tryd.func75, Tryd.ntmps75
  go_wp2
  go_ret
  exact ⟨rfl, by repeat (first | apply Zbf | apply Za7 | apply Zbe | exact Below.refl _ _)⟩
def Zcr.f (k : Nat) (a : Int) (c : List Int) (l1 : List (S34)) : Option Int := (Zar.f k a c).bind fun b => some (if b then (if l1.any (fun m => !isAut m.f0 m.f1 m.f2 m.f3) then 1 else if l1.any (fun m => m.f0 != a) then 2 else 0) else 1)
set_option maxHeartbeats 4000000 in
theorem Zcr.calls (k : Nat) (c : Int) (i : Option Addr) (j : Nat) (d : List Int) (A1 : Option Addr) (c1 : Nat) (l1 : List (S34)) (r : Int) (w : World) (q : Kd.C (Kd.int .i64) w i d.length d) (s : d.length ≤ j) (t : Kd.C k34 w A1 l1.length l1) (B : l1.length ≤ c1) (h : Zcr.f k c d l1 = some r) (hTab : Tab w) :
    Calls Tryd.prog 41 #[.agg #[.int .i64 c, .slice i d.length j], .slice A1 l1.length c1] w fun e w' => e = .returned (.int .i64 r) ∧ Below w.heap.size w w' := by
  have D := Tryd.underlying32
  unfold Zcr.f at h
  obtain ⟨b, hb, h1⟩ := Option.bind_eq_some_iff.mp h
  clear h
  have h := Option.some.inj h1
  clear h1
  have HB := mA (Below.refl w.heap.size w)
  have HA := mA (fun W (hw : Below w.heap.size w W) => Zar.calls k c i j d b W (zC q hw) s hb (Tab.below hw hTab))
  have H1 := mA (fun W (hw : Below w.heap.size w W) => conM 74 #[] (enters_of Tryd.func74 (by kernel_rfl) rfl) (fun m => !isAut m.f0 m.f1 m.f2 m.f3) A1 c1 l1 W (zC t hw)
      (fun W' x A' c' _ _ hC hc => over_1 x A' c' W' hC hc))
  have H2 := mA (fun W (hw : Below w.heap.size w W) (b1 : Nat) (h1 : W.cell? ⟨b1, 0, none⟩ = some (.int .i64 c)) (a : b1 < W.heap.size) => conM 75 #[.pointer (some ⟨b1, 0, none⟩)] (enters_of Tryd.func75 (by kernel_rfl) rfl) (fun m => m.f0 != c) A1 c1 l1 W (zC t hw)
      (fun W' x A' c' _ hb' _ _ => over_2 c b1 x A' c' W' ((hb'.cell (p := ⟨b1, 0, none⟩) a).trans h1) (Nat.lt_of_lt_of_le a hb'.size)))
  generalize l1.any (fun m => !isAut m.f0 m.f1 m.f2 m.f3) = q1 at H1 h
  generalize l1.any (fun m => m.f0 != c) = q2 at H2 h
  clear q s t hb hTab
  cases b
  · simp only [Bool.false_eq_true, if_false] at h
    subst h
    clear H1 H2
    go_enter Tryd.func41, Tryd.ntmps41
    go_wp2_with (go_at_call 72; refine (HA.out _ bW).mono ?_; rintro e w1 ⟨rfl, a⟩)
    go_ret
    exact ⟨rfl, Zac bW a⟩
  simp only [if_true] at h
  have v : ∀ W : World, Below w.heap.size w W → Below w.heap.size w (W.alloc (.cells #[.int .i64 c, .slice i d.length j] 32)) := fun W hW => Zbf hW _
  have y : ∀ w1, Below (w.alloc (.cells #[.int .i64 c, .slice i d.length j] 32)).heap.size (w.alloc (.cells #[.int .i64 c, .slice i d.length j] 32)) w1 → w1.cell? ⟨w.heap.size, 0, none⟩ = some (.int .i64 c) := fun w1 hb => (hb.cell (p := ⟨w.heap.size, 0, none⟩) (by simp)).trans (by go_simp)
  have z : ∀ w1, Below (w.alloc (.cells #[.int .i64 c, .slice i d.length j] 32)).heap.size (w.alloc (.cells #[.int .i64 c, .slice i d.length j] 32)) w1 → Zab (w.heap.size < w1.heap.size) := fun w1 hb => ⟨by have := hb.size; simp at this; omega⟩
  have A0 := mA v
  have K0 := mA y
  have K1 := mA z
  clear v y z
  cases q1; rotate_left
  · simp only [if_true] at h
    subst h
    clear H2
    go_enter Tryd.func41, Tryd.ntmps41
    go_wp2_with (first | (go_at_call 72; refine (HA.out _ (A0.out _ HB.out)).mono ?_; rintro e w1 ⟨rfl, a⟩; have L1 := K1.out _ a; have l := mA (Zac (A0.out _ HB.out) a); have k1 := K0.out _ a; have A := mA a; clear a) | (go_at_call 73; (with_reducible refine (H1.out _ l.out).mono ?_); rintro e w2 ⟨rfl, g⟩; have L2 := mA (Nat.lt_of_lt_of_le L1.out g.size); have k2 := (g.cell (p := ⟨w.heap.size, 0, none⟩) L1.out).trans k1; have n := mA (Zac l.out g); clear g k1))
    go_ret
    exact ⟨rfl, n.out⟩
  simp only [Bool.false_eq_true, if_false] at h
  cases q2; rotate_left
  · simp only [if_true] at h
    subst h
    go_enter Tryd.func41, Tryd.ntmps41
    go_wp2_with (first | (go_at_call 72; refine (HA.out _ (A0.out _ HB.out)).mono ?_; rintro e w1 ⟨rfl, a⟩; have L1 := K1.out _ a; have l := mA (Zac (A0.out _ HB.out) a); have k1 := K0.out _ a; have A := mA a; clear a) | (go_at_call 73; (with_reducible refine (H1.out _ l.out).mono ?_); rintro e w2 ⟨rfl, g⟩; have L2 := mA (Nat.lt_of_lt_of_le L1.out g.size); have k2 := (g.cell (p := ⟨w.heap.size, 0, none⟩) L1.out).trans k1; have n := mA (Zac l.out g); clear g k1) | (go_at_call 73; (with_reducible refine (H2.out _ n.out _ k2 L2.out).mono ?_); rintro e w3 ⟨rfl, o⟩; have u := mA (Zac n.out o); clear o))
    go_ret
    exact ⟨rfl, u.out⟩
  simp only [Bool.false_eq_true, if_false] at h
  subst h
  go_enter Tryd.func41, Tryd.ntmps41
  go_wp2_with (first | (go_at_call 72; refine (HA.out _ (A0.out _ HB.out)).mono ?_; rintro e w1 ⟨rfl, a⟩; have L1 := K1.out _ a; have l := mA (Zac (A0.out _ HB.out) a); have k1 := K0.out _ a; have A := mA a; clear a) | (go_at_call 73; (with_reducible refine (H1.out _ l.out).mono ?_); rintro e w2 ⟨rfl, g⟩; have L2 := mA (Nat.lt_of_lt_of_le L1.out g.size); have k2 := (g.cell (p := ⟨w.heap.size, 0, none⟩) L1.out).trans k1; have n := mA (Zac l.out g); clear g k1) | (go_at_call 73; (with_reducible refine (H2.out _ n.out _ k2 L2.out).mono ?_); rintro e w3 ⟨rfl, o⟩; have u := mA (Zac n.out o); clear o))
  go_ret
  exact ⟨rfl, u.out⟩
def Zb0.f (l0 : List Bool) : Option (List Bool) := if l0.length < 140737488355328 then some l0 else none
theorem Zb0.calls (A0 : Option Addr) (c0 : Nat) (l0 : List Bool) (r : List Bool) (w : World) (a : Kd.C Kd.bool w A0 l0.length l0) (d : l0.length ≤ c0) (h : Zb0.f l0 = some r) :
    Calls Tryd.prog 87 #[.slice A0 l0.length c0] w fun e w' => ∃ i : Value, e = .returned (i) ∧ Kd.R Kd.bool 4 w' w.heap.size (fun _ => True) i r ∧ Below w.heap.size w w' := by
  unfold Zb0.f at h
  by_cases c2 : l0.length < 140737488355328; rotate_left
  · rw [if_neg c2] at h
    cases h
  rw [if_pos c2] at h
  have k := mA c2
  clear c2
  obtain rfl := Option.some.inj h
  clear h
  have hq := fun (W : World) => Lib.run_eql_slice_nil (P := Tryd.prog) W 59 4 A0 l0.length c0 0 0 Tryd.underlying59
  have m := mA a
  have q := mA d
  have HB := mA (Below.refl w.heap.size w)
  cases A0 with
  | none =>
    have hl : l0.length = 0 := by
      by_cases hn : 0 < l0.length
      · obtain ⟨_, e, _⟩ := a.2.2 hn
        cases e
      · omega
    have n : l0 = [] := List.eq_nil_of_length_eq_zero hl
    subst n
    clear hl a d
    have o : ∀ W, (binOp .eql 59 (.slice none 0 c0) (.slice none 0 0)).run Tryd.prog W = .ok (.bool true) W := hq
    clear hq
    go_enter Tryd.func87, Tryd.ntmps87
    go_wp2
    go_ret
    exact ⟨_, rfl, Kd.R_nil _ _ _ _ _, Below.refl _ _⟩
  | some ad =>
    clear a d
    have o : ∀ W, (binOp .eql 59 (.slice (some ad) l0.length c0) (.slice none 0 0)).run Tryd.prog W = .ok (.bool false) W := hq
    clear hq
    go_enter Tryd.func87, Tryd.ntmps87
    go_wp2_with (first | ((with_reducible refine Zan (N := 5) rfl ?_); refine yS Kd.bool _ 4 ?hg (N := 5) ?hd (xs := ([] : List Bool)) (inner := []) (ok := fun _ => True) (okp := fun _ => True) ?hr ?hp (fun _ hk => hk) trivial (Below.refl _ _) (Nat.le_refl _) (by simp) ?_; (case hd => rfl); (case hg => rfl); (case hr => first | (go_simp; done) | (go_simp; rfl)); (case hp => exact (Reps.none _ _)); intro l w3 j hb hg_ hnew_; clear hg_ hnew_; have c := mA (zQ j (Zao (by repeat (first | (with_reducible first | exact HB.out | apply Zbf | apply Za7 | apply Zbe) | exact HB.out)))); replace HB := mA (Zac (by repeat (first | (with_reducible first | exact HB.out | apply Zbf | apply Za7 | apply Zbe) | exact HB.out)) hb); clear hb j) | ((with_reducible refine Zch (b := .append) (xs := #[.tmp 5, .tmp 6]) rfl ?_); at_builtin; refine xL Kd.bool (w0 := w) w.heap.size rfl (.tmp 5) (.tmp 6) 59 4 (.bool false) 1 rfl Tryd.underlying59 info4 rfl (by decide) (by omega) l [] l0 _ _ _ (fun _ => True) (fun _ => False) rfl rfl ?aO ?aR (fun _ _ h => h) (fun _ h => h.elim) ?aF ?aB ?aS ?aL ?_; (case aR => repeat (first | exact (zC m.out HB.out) | (with_reducible refine yP ?_ _) | (with_reducible refine yR ?_ _) | (with_reducible refine yQ ?_))); (case aB => exact (by repeat (first | (with_reducible first | exact HB.out | apply Zbf | apply Za7 | apply Zbe) | exact HB.out))); (case aF => exact (fun _ _ => trivial)); (case aO => exact (by (with_reducible repeat (first | apply zE | apply zD | apply zB)); exact c.out)); (case aS => exact (Zao (by repeat (first | (with_reducible first | exact HB.out | apply Zbf | apply Za7 | apply Zbe) | exact HB.out)))); (case aL => have := k.out; simp only [List.length_nil]; omega); intro p w5 ho hb hg hat; rw [List.nil_append] at ho; replace HB := mA (hb); have g := mA (ho); clear c ho hb hg hat))
    go_ret
    exact ⟨_, rfl, by (with_reducible repeat (first | apply zE | apply zD | apply zB)); exact g.out, by repeat (first | (with_reducible first | exact HB.out | apply Zbf | apply Za7 | apply Zbe) | exact HB.out)⟩
end Go.Proofs.YtlmicipfikammaaDoor.P
end
