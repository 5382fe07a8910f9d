import Derived.Test.YtgindgodfcfgkaaCFnExactMinimalAutomaton2
set_option maxHeartbeats 8000000
set_option maxRecDepth 100000
section M0
namespace Go.Proofs.Ytgindgodfcfgkaa.P
open Go.RowKit Go.Proofs.Ytgindgodfcfgkaa.Sh Go.Proofs.YtgindgodfcfgkaaW.PrintWords Go.Proofs.YtgindgodfcfgkaaW.PrintLast Go.Proofs.YtgindgodfcfgkaaW.PrintMore
open Kd
attribute [local go_sem] Zcf Zcc Zcn Zcp Zb5 Zb3 Zcd Zcb   -- for this text's walks alone
set_option linter.unusedVariables false
set_option linter.unusedSimpArgs false
mutual
def Zax.l0 : Nat → List Bool → Bool → Int → List (List Int) → List Bool → Option (List Bool)
 | 0, _, _, _, _, _ => none
 | k + 1, x3, x4, a, b, c => if x4 = true then (Zax.l1 k x3 false 0 a b c) else (some x3)
def Zax.l1 : Nat → List Bool → Bool → Int → Int → List (List Int) → List Bool → Option (List Bool)
 | 0, _, _, _, _, _, _ => none
 | k + 1, x3, x4, x5, b, a, c => if x5 < (a.length : Int) then (Zax.l2 k x3 x4 x5 0 b a c) else (Zax.l0 k x3 x4 b a c)
def Zax.l2 : Nat → List Bool → Bool → Int → Int → Int → List (List Int) → List Bool → Option (List Bool)
 | 0, _, _, _, _, _, _, _ => none
 | k + 1, x3, x4, x5, x6, b, a, c => if 0 ≤ x5 then (if x5 < (a.length : Int) then (if x6 < ((Zah a x5).length : Int) then (if x5 < (x3.length : Int) then (Zax.j3 k x3 x4 x5 x6 (!(rdOf false x3 x5)) b a c) else (none)) else (Zax.j3 k x3 x4 x5 x6 false b a c)) else (none)) else (none)
def Zax.j3 : Nat → List Bool → Bool → Int → Int → Bool → Int → List (List Int) → List Bool → Option (List Bool)
 | 0, _, _, _, _, _, _, _, _ => none
 | k + 1, x3, x4, x5, x6, d, b, a, c => if d = true then (if 0 ≤ x5 then (if x5 < (a.length : Int) then (if 0 ≤ x6 then (if x6 < ((Zah a x5).length : Int) then (if (rd (Zah a x5) x6) ≥ 0 then (if 0 ≤ (rd (Zah a x5) x6) then (if (rd (Zah a x5) x6) < (x3.length : Int) then (if rdOf false x3 (rd (Zah a x5) x6) = true then (if x5 < (x3.length : Int) then (Zax.l2 k (x3.set (x5 : Int).toNat true) true x5 (wrap64 (x6 + 1)) b a c) else (none)) else (Zax.l2 k x3 x4 x5 (wrap64 (x6 + 1)) b a c)) else (none)) else (none)) else (Zax.l2 k x3 x4 x5 (wrap64 (x6 + 1)) b a c)) else (none)) else (none)) else (none)) else (none)) else (Zax.l1 k x3 x4 (wrap64 (x5 + 1)) b a c)
end
def Zax.f (k : Nat) (c : Int) (d : List (List Int)) (a : List Bool) : Option (List Bool) := (some (([] : List Bool) : List Bool)).bind fun b => (if b.length + a.length < 140737488355328 then (Zax.l0 k (b ++ a) true c d a) else (none))
theorem Zax.calls (k : Nat) (n : Int) (z : Option Addr) (v : Nat) (d : List (List Int)) (x : Option Addr) (y : Nat) (l : List Bool) (r : List Bool) (w : World) (a6 : Kd.C (Kd.slice 2 (Kd.int .i64)) w z d.length d) (a7 : d.length ≤ v) (a8 : Kd.C Kd.bool w x l.length l) (a9 : l.length ≤ y) (h : Zax.f k n d l = some r) :
  Calls Try.prog 112 #[.agg #[.int .i64 n, .slice z d.length v, .slice x l.length y]] w fun e w' => ∃ b0 : Value, e = .returned (b0) ∧ Kd.R Kd.bool 4 w' w.heap.size (fun _ => True) b0 r ∧ Below w.heap.size w w' := by
 have cR := Try.underlying95
 have ad := mA a6
 have cE := mA a7
 clear a6 a7
 have bQ := mA a8
 have cF := mA a9
 clear a8 a9
 have HB := mA (Below.refl w.heap.size w)
 unfold Zax.f at h
 have H := h
 clear h
 obtain ⟨aZ, aA⟩ : ∃ y_ : List Bool, y_ = (([] : List Bool)) := ⟨_, rfl⟩
 replace H := bsm aA H
 have ba := mA aA
 clear aA
 by_cases c2 : aZ.length + l.length < 140737488355328; rotate_left
 ·rw [if_neg c2] at H
  exact absurd H (by simp)
 rw [if_pos c2] at H
 have b1 := mA c2
 clear c2
 obtain ⟨b2, aC⟩ : ∃ y_ : List Bool, y_ = (aZ ++ l) := ⟨_, rfl⟩
 rw [← aC] at H
 have bR := mA aC
 clear aC
 have H' := mA H
 clear H
 go_enter Try.func112, Try.ntmps112
 go_wp2_with (first | ((with_reducible refine Zar (N := 1) rfl ?_); refine boxS (N := 1) (cs := #[.int .i64 n, .slice z d.length v, .slice x l.length y]) (t := 95) ?_; intro i hg w3 hbox hb; have a := mA (hbox); have cG := geW (w := w) hg; have cH := geW (w := w) hg; replace HB := mA (Zaf (bW) hb); clear hb hbox hg) | ((with_reducible refine Zar (N := 8) rfl ?_); refine yL Kd.bool _ 4 ?hg (N := 8) ?hd (xs := ([] : List Bool)) (inner := []) (ok := fun _ => True) (okp := fun _ => True) ?hr ?hp (fun _ hk => hk) trivial (Below.refl _ _) (Nat.le_refl _) (by simp) ?_; (case hd => rfl); (case hg => rfl); (case hr => first | (go_simp; done) | (go_simp; rfl)); (case hp => exact (Reps.none _ _)); intro b3 w4 aT hb hg_ hnew_; clear hg_ hnew_; (first | rw [← ba.out] at aT | (simp only [Int.reduceToNat] at aT; rw [← ba.out] at aT)); have aD := mA (zU aT (Zao (bW))); replace a := mA (blkB a.out hb); replace HB := mA (Zaf (bW) hb); clear hb aT; obtain ⟨ae, af, ag⟩ := cells3 a.out; obtain ⟨ah, ai, aj⟩ := frz3 a.out) | ((with_reducible refine Zbq (b := .append) (xs := #[.tmp 8, .tmp 10]) rfl ?_); at_builtin; refine xK Kd.bool (w0 := w) w.heap.size rfl (.tmp 8) (.tmp 10) 61 4 (.bool false) 1 rfl Try.underlying61 info4 rfl (by decide) (by omega) b3 aZ l _ _ _ (fun _ => True) (fun _ => False) rfl rfl ?aO ?aR (fun _ _ h => h) (fun _ h => h.elim) ?aF ?aB ?aS ?aL ?_; (case aR => exact cP (zO bQ.out HB.out)); (case aB => exact (bW)); (case aF => exact (fun _ _ => trivial)); (case aO => exact (rP aD.out)); (case aS => exact (Zao (bW))); (case aL => have := b1.out; omega); intro aE w7 ho hb hg hat; rw [← bR.out] at ho; replace a := mA (Zan (g := i) (o := .cells #[.int .i64 n, .slice z d.length v, .slice x l.length y] 95 (0, 0)) (bP a.out) hg (zP aD.out a.out (by decide))); replace HB := mA (hb); have bS := mA (ho); clear aD ho hb hg hat))
 go_loopg [4] k (fun kq v4 w' => ∃ (aG : List Bool) (aH : Bool), v4 = .bool aH ∧ Zad (Zax.l0 kq aG aH n d l = some r) ∧ Zad (kq ≤ k) ∧ Zad (Kd.R Kd.bool 4 w' w.heap.size (fun _ => True) aE aG) ∧ Zad (w'.heap[i]? = some (.cells #[.int .i64 n, (.slice z d.length v), (.slice x l.length y)] 95 (0, 0))) ∧ Zad (Below w.heap.size w w'))
 case atStart => exact ⟨(b2), (true), (eW), H', ⟨Nat.le_refl _⟩, ⟨rP bS.out⟩, ⟨bP a.out⟩, ⟨bW⟩⟩
 case round =>
  clear H'
  try clear c1
  try clear c2
  try clear p2
  try clear ae
  try clear af
  try clear ag
  try clear ah
  try clear ai
  try clear aj
  obtain ⟨aG, aH, rfl, HA, O, m, a, HB⟩ := hrel
  cases gk with
  | zero => exact absurd HA.out (by simp [Zax.l0])
  | succ k1 =>
   have H := HA.out
   clear HA
   simp only [Zax.l0] at H
   by_cases c8 : aH = true; rotate_left
   ·replace c8 := Bool.eq_false_iff.mpr c8
    subst c8
    rw [iF] at H
    obtain rfl := oI H
    go_wp2
    go_ret
    exact ⟨_, eW, (rP m.out), bW⟩
   subst c8
   rw [if_pos rfl] at H
   have H' := mA H
   clear H
   go_wp2
   go_loopg [4, 5] k1 (fun kq v4 v5 w' => ∃ (al : List Bool) (am : Bool) (c : Int), v4 = .bool am ∧ v5 = .int .i64 c ∧ Zad (Zax.l1 kq al am c n d l = some r) ∧ Zad (kq ≤ k1) ∧ Zad (Kd.R Kd.bool 4 w' w.heap.size (fun _ => True) aE al) ∧ Zad (w'.heap[i]? = some (.cells #[.int .i64 n, (.slice z d.length v), (.slice x l.length y)] 95 (0, 0))) ∧ Zad (Below w.heap.size w w'))
   case atStart => exact ⟨(aG), (false), (0), (eW), (eW), H', ⟨Nat.le_refl _⟩, ⟨rP m.out⟩, ⟨bP a.out⟩, ⟨bW⟩⟩
   case round =>
    clear H'
    try clear c1
    try clear c2
    try clear p2
    try clear c8
    try clear ae
    try clear af
    try clear ag
    try clear ah
    try clear ai
    try clear aj
    try clear p2
    obtain ⟨al, am, c, rfl, rfl, HA, P, m, a, HB⟩ := hrel
    cases gk with
    | zero => exact absurd HA.out (by simp [Zax.l1])
    | succ k2 =>
     have H := HA.out
     clear HA
     simp only [Zax.l1] at H
     by_cases c9 : c < (d.length : Int); rotate_left
     ·rw [if_neg c9] at H
      have a0 := dF c9
      clear c9
      have H' := mA H
      clear H
      have cc : wr.cell? ⟨i, 0, none⟩ = some (.int .i64 n) := bc a 0
      have cd : wr.cell? ⟨i, 1, none⟩ = some (.slice z d.length v) := bc a 1
      have ce : wr.cell? ⟨i, 2, none⟩ = some (.slice x l.length y) := bc a 2
      have cf := Zae a.out 0
      have cg := Zae a.out 1
      have ch := Zae a.out 2
      go_wp2
      go_roundg k2
      case measure => have := O.out; have := P.out; omega
      case rel => exact ⟨(al), (am), (eW), H', ⟨by have := O.out; have := P.out; omega⟩, ⟨rP m.out⟩, ⟨bP a.out⟩, ⟨bW⟩⟩
     rw [if_pos c9] at H
     have a0 := dT c9
     clear c9
     have H' := mA H
     clear H
     have aq : wr.cell? ⟨i, 0, none⟩ = some (.int .i64 n) := bc a 0
     have ar : wr.cell? ⟨i, 1, none⟩ = some (.slice z d.length v) := bc a 1
     have au : wr.cell? ⟨i, 2, none⟩ = some (.slice x l.length y) := bc a 2
     have av := Zae a.out 0
     have aw := Zae a.out 1
     have ax := Zae a.out 2
     go_wp2
     go_loopg [4, 6] k2 (fun kq v4 v6 w' => ∃ (u : List Bool) (aa : Bool) (j : Int), v4 = .bool aa ∧ v6 = .int .i64 j ∧ Zad (Zax.l2 kq u aa c j n d l = some r) ∧ Zad (kq ≤ k2) ∧ Zad (Kd.R Kd.bool 4 w' w.heap.size (fun _ => True) aE u) ∧ Zad (w'.heap[i]? = some (.cells #[.int .i64 n, (.slice z d.length v), (.slice x l.length y)] 95 (0, 0))) ∧ Zad (Below w.heap.size w w'))
     case atStart => exact ⟨(al), (am), (0), (eW), (eW), H', ⟨Nat.le_refl _⟩, ⟨rP m.out⟩, ⟨bP a.out⟩, ⟨bW⟩⟩
     case round =>
      clear H'
      try clear c1
      try clear c2
      try clear p2
      try clear c8
      try clear c9
      try clear a0
      try clear aq
      try clear ar
      try clear au
      try clear ae
      try clear af
      try clear ag
      try clear av
      try clear aw
      try clear ax
      try clear ah
      try clear ai
      try clear aj
      try clear p2
      obtain ⟨u, aa, j, rfl, rfl, HA, Y, m, a, HB⟩ := hrel
      cases gk with
      | zero => exact absurd HA.out (by simp [Zax.l2])
      | succ k3 =>
       have H := HA.out
       clear HA
       simp only [Zax.l2] at H
       have a1 := mA H
       clear H
       go_upto_region 9 with (fail)
       go_cut [34] (fun v34 wc => ∃ (kq : Nat) (ak : Bool), v34 = .bool ak ∧ Zad (Zax.j3 kq u aa c j ak n d l = some r) ∧ Zad (kq ≤ k3) ∧ Zad (Kd.R Kd.bool 4 wc w.heap.size (fun _ => True) aE u) ∧ Zad (wc.heap[i]? = some (.cells #[.int .i64 n, (.slice z d.length v), (.slice x l.length y)] 95 (0, 0))) ∧ Zad (Below w.heap.size w wc))
       case first =>
        have H := a1.out
        clear a1
        by_cases aU : 0 ≤ c; rotate_left
        ·rw [if_neg aU] at H
         exact absurd H (by simp)
        rw [if_pos aU] at H
        have aI := dT aU
        clear aU
        (first | rw [aI] | (simp only [i64_w, i32_w]; rw [aI]) | skip)
        by_cases aV : c < (d.length : Int); rotate_left
        ·rw [if_neg aV] at H
         exact absurd H (by simp)
        rw [if_pos aV] at H
        have bT := dT aV
        clear aV
        by_cases an : j < ((Zah d c).length : Int); rotate_left
        ·rw [if_neg an] at H
         have bb := dF an
         clear an
         have H' := mA H
         clear H
         have bp : wr.cell? ⟨i, 0, none⟩ = some (.int .i64 n) := bc a 0
         have bq : wr.cell? ⟨i, 1, none⟩ = some (.slice z d.length v) := bc a 1
         have br : wr.cell? ⟨i, 2, none⟩ = some (.slice x l.length y) := bc a 2
         have bs := Zae a.out 0
         have bu := Zae a.out 1
         have bv := Zae a.out 2
         have T : 0 ≤ (c : Int) := ofD
         have U : c < (d.length : Int) := ofD
         obtain ⟨bU, bG, bH, a2, A, K, L⟩ := Zca ad.out c T U
         cases a2
         replace A := (HB.out.cell (wB w A)).trans A
         have bw := mA L
         have bx := mA K
         clear L K
         replace T := eq_true T
         replace U := eq_true U
         go_wp2
         go_meet
         case rel => exact ⟨_, (false), (eW), H', ⟨by have := O.out; have := P.out; have := Y.out; first | omega | exact Nat.le_refl _⟩, ⟨rP m.out⟩, ⟨bP a.out⟩, ⟨bW⟩⟩
        rw [if_pos an] at H
        have bb := dT an
        clear an
        by_cases aW : c < (u.length : Int); rotate_left
        ·rw [if_neg aW] at H
         exact absurd H (by simp)
        rw [if_pos aW] at H
        have bV := dT aW
        clear aW
        have H' := mA H
        clear H
        have bz : wr.cell? ⟨i, 0, none⟩ = some (.int .i64 n) := bc a 0
        have bA : wr.cell? ⟨i, 1, none⟩ = some (.slice z d.length v) := bc a 1
        have bB : wr.cell? ⟨i, 2, none⟩ = some (.slice x l.length y) := bc a 2
        have bC := Zae a.out 0
        have bD := Zae a.out 1
        have bE := Zae a.out 2
        have T : 0 ≤ (c : Int) := ofD
        have U : c < (d.length : Int) := ofD
        obtain ⟨bU, bG, bH, a2, A, K, L⟩ := Zca ad.out c T U
        cases a2
        replace A := (HB.out.cell (wB w A)).trans A
        have bw := mA L
        have bx := mA K
        clear L K
        replace T := eq_true T
        replace U := eq_true U
        obtain ⟨cS, cT, b4⟩ := zN m.out
        subst b4
        have aJ : 0 ≤ (c : Int) := ofD
        have aK : c < (u.length : Int) := ofD
        obtain ⟨cI, b5, bF⟩ := yA (zJ m.out).2.2 c aJ aK
        cases b5
        replace aJ := eq_true aJ
        replace aK := eq_true aK
        go_wp2
        go_meet
        case rel => exact ⟨_, (!(rdOf false u c)), (eW), H', ⟨by have := O.out; have := P.out; have := Y.out; first | omega | exact Nat.le_refl _⟩, ⟨rP m.out⟩, ⟨bP a.out⟩, ⟨bW⟩⟩
       case rest =>
        clear a1
        try clear c1
        try clear p1
        try clear q1
        try clear hx1
        try clear c2
        try clear p2
        try clear c8
        try clear c9
        try clear a0
        try clear c11
        try clear aU
        try clear aI
        try clear p12
        try clear q12
        try clear hx12
        try clear aV
        try clear bT
        try clear an
        try clear bb
        try clear aW
        try clear bV
        try clear aq
        try clear ar
        try clear au
        try clear bz
        try clear bA
        try clear bB
        try clear bp
        try clear bq
        try clear br
        try clear ae
        try clear af
        try clear ag
        try clear av
        try clear aw
        try clear ax
        try clear bC
        try clear bD
        try clear bE
        try clear bs
        try clear bu
        try clear bv
        try clear ah
        try clear ai
        try clear aj
        try clear A
        try clear bF
        try clear T
        try clear aJ
        try clear p2
        try clear U
        try clear aK
        obtain ⟨kq, ak, rfl, HA, W, m, a, HB⟩ := hcut
        cases kq with
        | zero => exact absurd HA.out (by simp [Zax.j3])
        | succ aM =>
         have H := HA.out
         clear HA
         simp only [Zax.j3] at H
         by_cases bd : ak = true; rotate_left
         ·replace bd := Bool.eq_false_iff.mpr bd
          subst bd
          rw [iF] at H
          have H' := mA H
          clear H
          go_wp2
          go_roundg aM
          case measure => have := O.out; have := P.out; have := Y.out; have := W.out; omega
          case rel => exact ⟨(u), (aa), (wrap64 (c + 1)), (eW), (eW), H', ⟨by have := O.out; have := P.out; have := Y.out; have := W.out; omega⟩, ⟨rP m.out⟩, ⟨bP a.out⟩, ⟨bW⟩⟩
         subst bd
         rw [if_pos rfl] at H
         by_cases bf : 0 ≤ c; rotate_left
         ·rw [if_neg bf] at H
          exact absurd H (by simp)
         rw [if_pos bf] at H
         have cJ := dT bf
         clear bf
         by_cases bg : c < (d.length : Int); rotate_left
         ·rw [if_neg bg] at H
          exact absurd H (by simp)
         rw [if_pos bg] at H
         have cK := dT bg
         clear bg
         by_cases bh : 0 ≤ j; rotate_left
         ·rw [if_neg bh] at H
          exact absurd H (by simp)
         rw [if_pos bh] at H
         have cL := dT bh
         clear bh
         by_cases bi : j < ((Zah d c).length : Int); rotate_left
         ·rw [if_neg bi] at H
          exact absurd H (by simp)
         rw [if_pos bi] at H
         have cM := dT bi
         clear bi
         by_cases ay : (rd (Zah d c) j) ≥ 0; rotate_left
         ·rw [if_neg ay] at H
          have bX : decide (0 ≤ (rd (Zah d c) j)) = false := dF ay
          clear ay
          have H' := mA H
          clear H
          have ci : wc.cell? ⟨i, 0, none⟩ = some (.int .i64 n) := bc a 0
          have cj : wc.cell? ⟨i, 1, none⟩ = some (.slice z d.length v) := bc a 1
          have ck : wc.cell? ⟨i, 2, none⟩ = some (.slice x l.length y) := bc a 2
          have cm := Zae a.out 0
          have cn := Zae a.out 1
          have co := Zae a.out 2
          have E : 0 ≤ (c : Int) := ofD
          have G : c < (d.length : Int) := ofD
          obtain ⟨aN, aX, aY, ao, q, B, D⟩ := Zca ad.out c E G
          cases ao
          replace q := (HB.out.cell (wB w q)).trans q
          have M := mA D
          have az := mA B
          clear D B
          replace E := eq_true E
          replace G := eq_true G
          have I : 0 ≤ (j : Int) := ofD
          have J : j < ((Zah d c).length : Int) := ofD
          obtain ⟨bj, ap, s⟩ := zL M.out j I J
          cases ap
          replace s := (HB.out.cell (wB w s)).trans s
          replace I := eq_true I
          replace J := eq_true J
          go_wp2
          go_roundg aM
          case measure => have := O.out; have := P.out; have := Y.out; have := W.out; omega
          case rel => exact ⟨(u), (aa), (wrap64 (j + 1)), (eW), (eW), H', ⟨by have := O.out; have := P.out; have := Y.out; have := W.out; omega⟩, ⟨rP m.out⟩, ⟨bP a.out⟩, ⟨bW⟩⟩
         rw [if_pos ay] at H
         have bX : decide (0 ≤ (rd (Zah d c) j)) = true := dT ay
         clear ay
         by_cases bk : 0 ≤ (rd (Zah d c) j); rotate_left
         ·rw [if_neg bk] at H
          exact absurd H (by simp)
         rw [if_pos bk] at H
         have cN := dT bk
         clear bk
         by_cases bl : (rd (Zah d c) j) < (u.length : Int); rotate_left
         ·rw [if_neg bl] at H
          exact absurd H (by simp)
         rw [if_pos bl] at H
         have cO := dT bl
         clear bl
         obtain ⟨b6, aP⟩ : ∃ b_ : Bool, b_ = (rdOf false u (rd (Zah d c) j)) := ⟨_, rfl⟩
         rw [← aP] at H
         have bm := mA aP
         clear aP
         by_cases bn : b6 = true; rotate_left
         ·replace bn := Bool.eq_false_iff.mpr bn
          subst bn
          rw [iF] at H
          have H' := mA H
          clear H
          have cp : wc.cell? ⟨i, 0, none⟩ = some (.int .i64 n) := bc a 0
          have cq : wc.cell? ⟨i, 1, none⟩ = some (.slice z d.length v) := bc a 1
          have cr : wc.cell? ⟨i, 2, none⟩ = some (.slice x l.length y) := bc a 2
          have ct := Zae a.out 0
          have cu := Zae a.out 1
          have cv := Zae a.out 2
          have E : 0 ≤ (c : Int) := ofD
          have G : c < (d.length : Int) := ofD
          obtain ⟨aN, aX, aY, ao, q, B, D⟩ := Zca ad.out c E G
          cases ao
          replace q := (HB.out.cell (wB w q)).trans q
          have M := mA D
          have az := mA B
          clear D B
          replace E := eq_true E
          replace G := eq_true G
          have I : 0 ≤ (j : Int) := ofD
          have J : j < ((Zah d c).length : Int) := ofD
          obtain ⟨bj, ap, s⟩ := zL M.out j I J
          cases ap
          replace s := (HB.out.cell (wB w s)).trans s
          replace I := eq_true I
          replace J := eq_true J
          obtain ⟨cU, cV, b7⟩ := zN m.out
          subst b7
          have ab : 0 ≤ ((rd (Zah d c) j) : Int) := ofD
          have ac : (rd (Zah d c) j) < (u.length : Int) := ofD
          obtain ⟨bY, a3, X⟩ := yA (zJ m.out).2.2 (rd (Zah d c) j) ab ac
          (try rw [← bm.out] at X)
          cases a3
          replace ab := eq_true ab
          replace ac := eq_true ac
          go_wp2
          go_roundg aM
          case measure => have := O.out; have := P.out; have := Y.out; have := W.out; omega
          case rel => exact ⟨(u), (aa), (wrap64 (j + 1)), (eW), (eW), H', ⟨by have := O.out; have := P.out; have := Y.out; have := W.out; omega⟩, ⟨rP m.out⟩, ⟨bP a.out⟩, ⟨bW⟩⟩
         subst bn
         rw [if_pos rfl] at H
         by_cases bo : c < (u.length : Int); rotate_left
         ·rw [if_neg bo] at H
          exact absurd H (by simp)
         rw [if_pos bo] at H
         have cQ := dT bo
         clear bo
         obtain ⟨bI, aQ⟩ : ∃ y_ : List Bool, y_ = (u.set (c : Int).toNat true) := ⟨_, rfl⟩
         rw [← aQ] at H
         have bZ := mA aQ
         clear aQ
         have H' := mA H
         clear H
         have cw : wc.cell? ⟨i, 0, none⟩ = some (.int .i64 n) := bc a 0
         have cx : wc.cell? ⟨i, 1, none⟩ = some (.slice z d.length v) := bc a 1
         have cy : wc.cell? ⟨i, 2, none⟩ = some (.slice x l.length y) := bc a 2
         have cz := Zae a.out 0
         have cA := Zae a.out 1
         have cB := Zae a.out 2
         have E : 0 ≤ (c : Int) := ofD
         have G : c < (d.length : Int) := ofD
         obtain ⟨aN, aX, aY, ao, q, B, D⟩ := Zca ad.out c E G
         cases ao
         replace q := (HB.out.cell (wB w q)).trans q
         have M := mA D
         have az := mA B
         clear D B
         replace E := eq_true E
         replace G := eq_true G
         have I : 0 ≤ (j : Int) := ofD
         have J : j < ((Zah d c).length : Int) := ofD
         obtain ⟨bj, ap, s⟩ := zL M.out j I J
         cases ap
         replace s := (HB.out.cell (wB w s)).trans s
         replace I := eq_true I
         replace J := eq_true J
         obtain ⟨cW, b8, b9⟩ := zN m.out
         subst b9
         have ab : 0 ≤ ((rd (Zah d c) j) : Int) := ofD
         have ac : (rd (Zah d c) j) < (u.length : Int) := ofD
         obtain ⟨bY, a3, X⟩ := yA (zJ m.out).2.2 (rd (Zah d c) j) ab ac
         (try rw [← bm.out] at X)
         cases a3
         replace ab := eq_true ab
         replace ac := eq_true ac
         have bJ : 0 ≤ (c : Int) := ofD
         have bK : (c : Int) < ((u.length : Int) : Int) := ofD
         obtain ⟨a4, cX, bL, bM, ca, cY, bN⟩ := yH m.out (by omega)
         (first | cases bL | (injection bL with ea_ en_ ec_; (first | subst ea_ | (injection ea_ with ea_; subst ea_)); subst ec_; clear en_))
         have cb := mA bM
         have cZ := mA bN
         clear bM ca bN
         (first | simp only [Zb8] at X | skip)
         obtain ⟨cC, cD⟩ := yB false m.out (c : Int) bJ bK
         replace bJ := eq_true bJ
         replace bK := eq_true bK
         have a5 := yE m.out (c : Int) true
         go_wp2_with (first | ((with_reducible refine Zbh (t := 4) (p := 55) rfl ?_); refine Zcv (t := 4) (p := 55) (w1 := (wc.setCell ⟨a4, (c : Int).toNat, none⟩ (.bool true))) ?_; intro bO hw; have hg : wc.grownBy bO (some a4) := (by rw [hw]; exact a5.2); have hp_ : Kd.R Kd.bool 4 bO w.heap.size (fun _ => True) (.slice (some ⟨a4, 0, none⟩) u.length b8) bI := (by rw [hw, bZ.out]; exact a5.1); clear a5; replace a := mA (Zan (g := i) (o := .cells #[.int .i64 n, .slice (some aN) d.length v, .slice x l.length y] 95 (0, 0)) (bP a.out) hg (zP m.out a.out (by decide))); replace m := mA (hp_); replace HB := mA ((by rw [hw]; exact Za8 (HB.out) cb.out : Below w.heap.size w bO)); clear hg hw hp_))
         go_roundg aM
         case measure => have := O.out; have := P.out; have := Y.out; have := W.out; omega
         case rel => exact ⟨(bI), (true), (wrap64 (j + 1)), (eW), (eW), H', ⟨by have := O.out; have := P.out; have := Y.out; have := W.out; omega⟩, ⟨rP m.out⟩, ⟨bP a.out⟩, ⟨bW⟩⟩
def Za5.f (l0 : List Int) (a1 : Int) : Option (Int) := if a1 < 0 then (some (-1)) else (if 0 ≤ a1 then (if a1 < (l0.length : Int) then (some (rd l0 a1)) else (none)) else (none))
theorem Za5.calls (A0 : Option Addr) (c0 : Nat) (l0 : List Int) (a1 : Int) (r : Int) (w : World) (c : Kd.C (Kd.int .i64) w A0 l0.length l0) (d : l0.length ≤ c0) (h : Za5.f l0 a1 = some r) :
  Calls Try.prog 103 #[.slice A0 l0.length c0, .int .i64 a1] w fun e w' => e = .returned (.int .i64 r) ∧ Zas w w' := by
 have k := mA c
 have o := mA d
 clear c d
 unfold Za5.f at h
 have H := h
 clear h
 by_cases c3 : a1 < 0
 ·rw [if_pos c3] at H
  have g := dT c3
  clear c3
  obtain rfl := oI H
  go_enter Try.func103, Try.ntmps103
  go_wp2
  go_ret
  exact ⟨eW, by repeat (first | exact Zas.refl _ | apply Zas.step)⟩
 rw [if_neg c3] at H
 have g := dF c3
 clear c3
 by_cases c4 : 0 ≤ a1; rotate_left
 ·rw [if_neg c4] at H
  exact absurd H (by simp)
 rw [if_pos c4] at H
 have m := dT c4
 clear c4
 by_cases c5 : a1 < (l0.length : Int); rotate_left
 ·rw [if_neg c5] at H
  exact absurd H (by simp)
 rw [if_pos c5] at H
 have n := dT c5
 clear c5
 obtain rfl := oI H
 have a : 0 ≤ (a1 : Int) := ofD
 have b : a1 < (l0.length : Int) := ofD
 obtain ⟨l, i, j⟩ := zL k.out a1 a b
 cases i
 replace a := eq_true a
 replace b := eq_true b
 go_enter Try.func103, Try.ntmps103
 go_wp2
 go_ret
 exact ⟨eW, by repeat (first | exact Zas.refl _ | apply Zas.step)⟩
end Go.Proofs.Ytgindgodfcfgkaa.P
end M0
section M1
namespace Go.Proofs.Ytgindgodfcfgkaa.P
open Go.RowKit Go.Proofs.Ytgindgodfcfgkaa.Sh Go.Proofs.YtgindgodfcfgkaaW.PrintWords Go.Proofs.YtgindgodfcfgkaaW.PrintLast Go.Proofs.YtgindgodfcfgkaaW.PrintMore
open Kd
attribute [local go_sem] Zcf Zcc Zcn Zcp Zb5 Zb3 Zcd Zcb   -- for this text's walks alone
set_option linter.unusedVariables false
set_option linter.unusedSimpArgs false
def Zbn.l0 : Nat → List Int → Int → Int → Int → Int → List (List Int) → List Bool → Option (Bool)
 | 0, _, _, _, _, _, _, _ => none
 | k + 1, x1, x2, x3, x9, b, a, c => if x9 < b then (if 0 ≤ x2 then (if x2 < (a.length : Int) then (if 0 ≤ x9 then (if x9 < ((Zah a x2).length : Int) then ((Za5.f x1 (rd (Zah a x2) x9)).bind fun d => (if 0 ≤ x3 then (if x3 < (a.length : Int) then (if x9 < ((Zah a x3).length : Int) then ((Za5.f x1 (rd (Zah a x3) x9)).bind fun e => (if d = e then (Zbn.l0 k x1 x2 x3 (wrap64 (x9 + 1)) b a c) else (some false))) else (none)) else (none)) else (none))) else (none)) else (none)) else (none)) else (none)) else (some true)
def Zbn.f (k : Nat) (a : Int) (b : List (List Int)) (c : List Bool) (l1 : List Int) (a2 : Int) (a3 : Int) : Option (Bool) := if 0 ≤ a2 then (if a2 < (l1.length : Int) then (if 0 ≤ a3 then (if a3 < (l1.length : Int) then (if (rd l1 a2) = (rd l1 a3) then (Zbn.l0 k l1 a2 a3 0 a b c) else (some false)) else (none)) else (none)) else (none)) else (none)
theorem Zbn.calls (k : Nat) (D : Int) (L : Option Addr) (M : Nat) (a : List (List Int)) (O : Option Addr) (P : Nat) (B : List Bool) (A1 : Option Addr) (c1 : Nat) (l1 : List Int) (a2 : Int) (a3 : Int) (r : Bool) (w : World) (az : Kd.C (Kd.slice 2 (Kd.int .i64)) w L a.length a) (aA : a.length ≤ M) (aB : Kd.C Kd.bool w O B.length B) (aC : B.length ≤ P) (aV : Kd.C (Kd.int .i64) w A1 l1.length l1) (aW : l1.length ≤ c1) (h : Zbn.f k D a B l1 a2 a3 = some r) :
  Calls Try.prog 113 #[.agg #[.int .i64 D, .slice L a.length M, .slice O B.length P], .slice A1 l1.length c1, .int .i64 a2, .int .i64 a3] w fun e w' => e = .returned (.bool r) ∧ Below w.heap.size w w' := by
 have bC := Try.underlying95
 have ab := mA az
 have bq := mA aA
 clear az aA
 have br := mA aB
 have bs := mA aC
 clear aB aC
 have A := mA aV
 have ag := mA aW
 clear aV aW
 have HB := mA (Below.refl w.heap.size w)
 unfold Zbn.f at h
 have H := h
 clear h
 by_cases c5 : 0 ≤ a2; rotate_left
 ·rw [if_neg c5] at H
  exact absurd H (by simp)
 rw [if_pos c5] at H
 have a0 := dT c5
 clear c5
 by_cases c6 : a2 < (l1.length : Int); rotate_left
 ·rw [if_neg c6] at H
  exact absurd H (by simp)
 rw [if_pos c6] at H
 have a1 := dT c6
 clear c6
 by_cases c7 : 0 ≤ a3; rotate_left
 ·rw [if_neg c7] at H
  exact absurd H (by simp)
 rw [if_pos c7] at H
 have a4 := dT c7
 clear c7
 by_cases c8 : a3 < (l1.length : Int); rotate_left
 ·rw [if_neg c8] at H
  exact absurd H (by simp)
 rw [if_pos c8] at H
 have a5 := dT c8
 clear c8
 by_cases c9 : (rd l1 a2) = (rd l1 a3); rotate_left
 ·rw [if_neg c9] at H
  have aL : ((rd l1 a2) == (rd l1 a3)) = false := beq_eq_false_iff_ne.mpr c9
  have aM : ((rd l1 a2) != (rd l1 a3)) = true := bne_iff_ne.mpr c9
  obtain rfl := oI H
  go_enter Try.func113, Try.ntmps113
  go_wp2_with (first | ((with_reducible refine Zar (N := 4) rfl ?_); refine boxS (N := 4) (cs := #[.int .i64 D, .slice L a.length M, .slice O B.length P]) (t := 95) ?_; intro z hg aX hbox hb; have j := mA (hbox); have an := geW (w := w) hg; have ao := geW (w := w) hg; replace HB := mA (Zaf (bW) hb); clear hb hbox hg; have n : 0 ≤ (a2 : Int) := ofD; have o : a2 < (l1.length : Int) := ofD; obtain ⟨E, T, c⟩ := zL A.out a2 n o; cases T; replace c := (HB.out.cell (wB w c)).trans c; replace n := eq_true n; replace o := eq_true o; have p : 0 ≤ (a3 : Int) := ofD; have q : a3 < (l1.length : Int) := ofD; obtain ⟨G, U, d⟩ := zL A.out a3 p q; obtain rfl : E = G := (by injection U); replace d := (HB.out.cell (wB w d)).trans d; replace p := eq_true p; replace q := eq_true q))
  repeat (go_quiet (first | ((with_reducible refine Zar (N := 4) rfl ?_); refine boxS (N := 4) (cs := #[.int .i64 D, .slice L a.length M, .slice O B.length P]) (t := 95) ?_; intro z hg aX hbox hb; have j := mA (hbox); have an := geW (w := w) hg; have ao := geW (w := w) hg; replace HB := mA (Zaf (bW) hb); clear hb hbox hg; have n : 0 ≤ (a2 : Int) := ofD; have o : a2 < (l1.length : Int) := ofD; obtain ⟨E, T, c⟩ := zL A.out a2 n o; cases T; replace c := (HB.out.cell (wB w c)).trans c; replace n := eq_true n; replace o := eq_true o; have p : 0 ≤ (a3 : Int) := ofD; have q : a3 < (l1.length : Int) := ofD; obtain ⟨G, U, d⟩ := zL A.out a3 p q; obtain rfl : E = G := (by injection U); replace d := (HB.out.cell (wB w d)).trans d; replace p := eq_true p; replace q := eq_true q)); try go_wp2_with (first | ((with_reducible refine Zar (N := 4) rfl ?_); refine boxS (N := 4) (cs := #[.int .i64 D, .slice L a.length M, .slice O B.length P]) (t := 95) ?_; intro z hg aX hbox hb; have j := mA (hbox); have an := geW (w := w) hg; have ao := geW (w := w) hg; replace HB := mA (Zaf (bW) hb); clear hb hbox hg; have n : 0 ≤ (a2 : Int) := ofD; have o : a2 < (l1.length : Int) := ofD; obtain ⟨E, T, c⟩ := zL A.out a2 n o; cases T; replace c := (HB.out.cell (wB w c)).trans c; replace n := eq_true n; replace o := eq_true o; have p : 0 ≤ (a3 : Int) := ofD; have q : a3 < (l1.length : Int) := ofD; obtain ⟨G, U, d⟩ := zL A.out a3 p q; obtain rfl : E = G := (by injection U); replace d := (HB.out.cell (wB w d)).trans d; replace p := eq_true p; replace q := eq_true q)))
  go_ret
  exact ⟨eW, bW⟩
 rw [if_pos c9] at H
 have aL : ((rd l1 a2) == (rd l1 a3)) = true := beq_iff_eq.mpr c9
 have aM : ((rd l1 a2) != (rd l1 a3)) = false := bne_eq_false_iff_eq.mpr c9
 clear c9
 have H' := mA H
 clear H
 go_enter Try.func113, Try.ntmps113
 go_wp2_with (first | ((with_reducible refine Zar (N := 4) rfl ?_); refine boxS (N := 4) (cs := #[.int .i64 D, .slice L a.length M, .slice O B.length P]) (t := 95) ?_; intro z hg aY hbox hb; have j := mA (hbox); have an := geW (w := w) hg; have ao := geW (w := w) hg; replace HB := mA (Zaf (bW) hb); clear hb hbox hg; have n : 0 ≤ (a2 : Int) := ofD; have o : a2 < (l1.length : Int) := ofD; obtain ⟨E, T, c⟩ := zL A.out a2 n o; cases T; replace c := (HB.out.cell (wB w c)).trans c; replace n := eq_true n; replace o := eq_true o; have p : 0 ≤ (a3 : Int) := ofD; have q : a3 < (l1.length : Int) := ofD; obtain ⟨G, U, d⟩ := zL A.out a3 p q; obtain rfl : E = G := (by injection U); replace d := (HB.out.cell (wB w d)).trans d; replace p := eq_true p; replace q := eq_true q))
 repeat (go_quiet (first | ((with_reducible refine Zar (N := 4) rfl ?_); refine boxS (N := 4) (cs := #[.int .i64 D, .slice L a.length M, .slice O B.length P]) (t := 95) ?_; intro z hg aY hbox hb; have j := mA (hbox); have an := geW (w := w) hg; have ao := geW (w := w) hg; replace HB := mA (Zaf (bW) hb); clear hb hbox hg; have n : 0 ≤ (a2 : Int) := ofD; have o : a2 < (l1.length : Int) := ofD; obtain ⟨E, T, c⟩ := zL A.out a2 n o; cases T; replace c := (HB.out.cell (wB w c)).trans c; replace n := eq_true n; replace o := eq_true o; have p : 0 ≤ (a3 : Int) := ofD; have q : a3 < (l1.length : Int) := ofD; obtain ⟨G, U, d⟩ := zL A.out a3 p q; obtain rfl : E = G := (by injection U); replace d := (HB.out.cell (wB w d)).trans d; replace p := eq_true p; replace q := eq_true q)); try go_wp2_with (first | ((with_reducible refine Zar (N := 4) rfl ?_); refine boxS (N := 4) (cs := #[.int .i64 D, .slice L a.length M, .slice O B.length P]) (t := 95) ?_; intro z hg aY hbox hb; have j := mA (hbox); have an := geW (w := w) hg; have ao := geW (w := w) hg; replace HB := mA (Zaf (bW) hb); clear hb hbox hg; have n : 0 ≤ (a2 : Int) := ofD; have o : a2 < (l1.length : Int) := ofD; obtain ⟨E, T, c⟩ := zL A.out a2 n o; cases T; replace c := (HB.out.cell (wB w c)).trans c; replace n := eq_true n; replace o := eq_true o; have p : 0 ≤ (a3 : Int) := ofD; have q : a3 < (l1.length : Int) := ofD; obtain ⟨G, U, d⟩ := zL A.out a3 p q; obtain rfl : E = G := (by injection U); replace d := (HB.out.cell (wB w d)).trans d; replace p := eq_true p; replace q := eq_true q)))
 go_loopg [9] k (fun kq v9 w' => ∃ (b : Int), v9 = .int .i64 b ∧ Zad (Zbn.l0 kq l1 a2 a3 b D a B = some r) ∧ Zad (kq ≤ k) ∧ Zad (w'.heap[z]? = some (.cells #[.int .i64 D, (.slice L a.length M), (.slice O B.length P)] 95 (0, 0))) ∧ Zad (Below w.heap.size w w'))
 case atStart => exact ⟨(0), (eW), H', ⟨Nat.le_refl _⟩, ⟨bP j.out⟩, ⟨bW⟩⟩
 case round =>
  clear H'
  try clear c1
  try clear p1
  try clear q1
  try clear hx1
  try clear p2
  try clear c5
  try clear a0
  try clear c6
  try clear a1
  try clear c7
  try clear a4
  try clear c8
  try clear a5
  try clear c9
  try clear aL
  try clear aM
  try clear c
  try clear d
  try clear n
  try clear p
  try clear o
  try clear q
  obtain ⟨b, rfl, HA, aZ, j, HB⟩ := hrel
  cases gk with
  | zero => exact absurd HA.out (by simp [Zbn.l0])
  | succ k1 =>
   have H := HA.out
   clear HA
   simp only [Zbn.l0] at H
   by_cases au : b < D; rotate_left
   ·rw [if_neg au] at H
    have aR := dF au
    clear au
    obtain rfl := oI H
    have a6 : wr.cell? ⟨z, 0, none⟩ = some (.int .i64 D) := bc j 0
    have a7 : wr.cell? ⟨z, 1, none⟩ = some (.slice L a.length M) := bc j 1
    have a8 : wr.cell? ⟨z, 2, none⟩ = some (.slice O B.length P) := bc j 2
    have a9 := Zae j.out 0
    have ba := Zae j.out 1
    have bb := Zae j.out 2
    go_wp2
    repeat (go_quiet (fail); try go_wp2)
    go_ret
    exact ⟨eW, bW⟩
   rw [if_pos au] at H
   have aR := dT au
   clear au
   by_cases aD : 0 ≤ a2; rotate_left
   ·rw [if_neg aD] at H
    exact absurd H (by simp)
   rw [if_pos aD] at H
   have bu := dT aD
   clear aD
   by_cases aE : a2 < (a.length : Int); rotate_left
   ·rw [if_neg aE] at H
    exact absurd H (by simp)
   rw [if_pos aE] at H
   have bv := dT aE
   clear aE
   by_cases aF : 0 ≤ b; rotate_left
   ·rw [if_neg aF] at H
    exact absurd H (by simp)
   rw [if_pos aF] at H
   have bw := dT aF
   clear aF
   by_cases aG : b < ((Zah a a2).length : Int); rotate_left
   ·rw [if_neg aG] at H
    exact absurd H (by simp)
   rw [if_pos aG] at H
   have bx := dT aG
   clear aG
   replace H := bE H
   obtain ⟨W, aN, H⟩ := H
   have av := mA aN
   clear aN
   by_cases aH : 0 ≤ a3; rotate_left
   ·rw [if_neg aH] at H
    exact absurd H (by simp)
   rw [if_pos aH] at H
   have bz := dT aH
   clear aH
   by_cases aI : a3 < (a.length : Int); rotate_left
   ·rw [if_neg aI] at H
    exact absurd H (by simp)
   rw [if_pos aI] at H
   have bA := dT aI
   clear aI
   by_cases aJ : b < ((Zah a a3).length : Int); rotate_left
   ·rw [if_neg aJ] at H
    exact absurd H (by simp)
   rw [if_pos aJ] at H
   have bB := dT aJ
   clear aJ
   replace H := bE H
   obtain ⟨X, aO, H⟩ := H
   have aw := mA aO
   clear aO
   by_cases ar : W = X; rotate_left
   ·rw [if_neg ar] at H
    have aS : (W == X) = false := beq_eq_false_iff_ne.mpr ar
    have aT : (W != X) = true := bne_iff_ne.mpr ar
    obtain rfl := oI H
    have bd : wr.cell? ⟨z, 0, none⟩ = some (.int .i64 D) := bc j 0
    have bf : wr.cell? ⟨z, 1, none⟩ = some (.slice L a.length M) := bc j 1
    have bg : wr.cell? ⟨z, 2, none⟩ = some (.slice O B.length P) := bc j 2
    have bh := Zae j.out 0
    have bi := Zae j.out 1
    have bj := Zae j.out 2
    have aj : 0 ≤ (a2 : Int) := ofD
    have ak : a2 < (a.length : Int) := ofD
    obtain ⟨af, aP, aQ, ax, J, ac, ad⟩ := Zca ab.out a2 aj ak
    cases ax
    replace J := (HB.out.cell (wB w J)).trans J
    have aq := mA ad
    have aK := mA ac
    clear ad ac
    replace aj := eq_true aj
    replace ak := eq_true ak
    have al : 0 ≤ (b : Int) := ofD
    have am : b < ((Zah a a2).length : Int) := ofD
    obtain ⟨aU, ay, K⟩ := zL aq.out b al am
    cases ay
    replace K := (HB.out.cell (wB w K)).trans K
    replace al := eq_true al
    replace am := eq_true am
    go_wp2_with (first | (go_at_call 103; (with_reducible refine (Za5.calls _ _ l1 (rd (Zah a a2) b) W _ ?side1 ?side2 av.out).mono ?_); (case side1 => exact cP (zO A.out HB.out)); (case side2 => exact ag.out); rintro e w' ⟨rfl, ⟨nd, rfl⟩⟩; (try first | exact dwD | exact dwE); have s : 0 ≤ (a3 : Int) := ofD; have u : a3 < (a.length : Int) := ofD; obtain ⟨I, ah, ai, Y, g, l, m⟩ := Zca ab.out a3 s u; obtain rfl : af = I := (by injection Y); replace g := (HB.out.cell (wB w g)).trans g; have y := mA m; have ae := mA l; clear m l; replace s := eq_true s; replace u := eq_true u; have v : 0 ≤ (b : Int) := ofD; have x : b < ((Zah a a3).length : Int) := ofD; obtain ⟨ap, aa, i⟩ := zL y.out b v x; cases aa; replace i := (HB.out.cell (wB w i)).trans i; replace v := eq_true v; replace x := eq_true x) | (go_at_call 103; (with_reducible refine (Za5.calls _ _ l1 (rd (Zah a a3) b) X _ ?side1 ?side2 aw.out).mono ?_); (case side1 => exact cP (zO A.out (bW))); (case side2 => exact ag.out); rintro e w' ⟨rfl, ⟨nd, rfl⟩⟩; (try first | exact dwD | exact dwE)))
    repeat (go_quiet (first | (go_at_call 103; (with_reducible refine (Za5.calls _ _ l1 (rd (Zah a a2) b) W _ ?side1 ?side2 av.out).mono ?_); (case side1 => exact cP (zO A.out HB.out)); (case side2 => exact ag.out); rintro e w' ⟨rfl, ⟨nd, rfl⟩⟩; (try first | exact dwD | exact dwE); have s : 0 ≤ (a3 : Int) := ofD; have u : a3 < (a.length : Int) := ofD; obtain ⟨I, ah, ai, Y, g, l, m⟩ := Zca ab.out a3 s u; obtain rfl : af = I := (by injection Y); replace g := (HB.out.cell (wB w g)).trans g; have y := mA m; have ae := mA l; clear m l; replace s := eq_true s; replace u := eq_true u; have v : 0 ≤ (b : Int) := ofD; have x : b < ((Zah a a3).length : Int) := ofD; obtain ⟨ap, aa, i⟩ := zL y.out b v x; cases aa; replace i := (HB.out.cell (wB w i)).trans i; replace v := eq_true v; replace x := eq_true x) | (go_at_call 103; (with_reducible refine (Za5.calls _ _ l1 (rd (Zah a a3) b) X _ ?side1 ?side2 aw.out).mono ?_); (case side1 => exact cP (zO A.out (bW))); (case side2 => exact ag.out); rintro e w' ⟨rfl, ⟨nd, rfl⟩⟩; (try first | exact dwD | exact dwE))); try go_wp2_with (first | (go_at_call 103; (with_reducible refine (Za5.calls _ _ l1 (rd (Zah a a2) b) W _ ?side1 ?side2 av.out).mono ?_); (case side1 => exact cP (zO A.out HB.out)); (case side2 => exact ag.out); rintro e w' ⟨rfl, ⟨nd, rfl⟩⟩; (try first | exact dwD | exact dwE); have s : 0 ≤ (a3 : Int) := ofD; have u : a3 < (a.length : Int) := ofD; obtain ⟨I, ah, ai, Y, g, l, m⟩ := Zca ab.out a3 s u; obtain rfl : af = I := (by injection Y); replace g := (HB.out.cell (wB w g)).trans g; have y := mA m; have ae := mA l; clear m l; replace s := eq_true s; replace u := eq_true u; have v : 0 ≤ (b : Int) := ofD; have x : b < ((Zah a a3).length : Int) := ofD; obtain ⟨ap, aa, i⟩ := zL y.out b v x; cases aa; replace i := (HB.out.cell (wB w i)).trans i; replace v := eq_true v; replace x := eq_true x) | (go_at_call 103; (with_reducible refine (Za5.calls _ _ l1 (rd (Zah a a3) b) X _ ?side1 ?side2 aw.out).mono ?_); (case side1 => exact cP (zO A.out (bW))); (case side2 => exact ag.out); rintro e w' ⟨rfl, ⟨nd, rfl⟩⟩; (try first | exact dwD | exact dwE))))
    go_ret
    exact ⟨eW, bW⟩
   rw [if_pos ar] at H
   have aS : (W == X) = true := beq_iff_eq.mpr ar
   have aT : (W != X) = false := bne_eq_false_iff_eq.mpr ar
   clear ar
   have H' := mA H
   clear H
   have bk : wr.cell? ⟨z, 0, none⟩ = some (.int .i64 D) := bc j 0
   have bl : wr.cell? ⟨z, 1, none⟩ = some (.slice L a.length M) := bc j 1
   have bm : wr.cell? ⟨z, 2, none⟩ = some (.slice O B.length P) := bc j 2
   have bn := Zae j.out 0
   have bo := Zae j.out 1
   have bp := Zae j.out 2
   have aj : 0 ≤ (a2 : Int) := ofD
   have ak : a2 < (a.length : Int) := ofD
   obtain ⟨af, aP, aQ, ax, J, ac, ad⟩ := Zca ab.out a2 aj ak
   cases ax
   replace J := (HB.out.cell (wB w J)).trans J
   have aq := mA ad
   have aK := mA ac
   clear ad ac
   replace aj := eq_true aj
   replace ak := eq_true ak
   have al : 0 ≤ (b : Int) := ofD
   have am : b < ((Zah a a2).length : Int) := ofD
   obtain ⟨aU, ay, K⟩ := zL aq.out b al am
   cases ay
   replace K := (HB.out.cell (wB w K)).trans K
   replace al := eq_true al
   replace am := eq_true am
   go_wp2_with (first | (go_at_call 103; (with_reducible refine (Za5.calls _ _ l1 (rd (Zah a a2) b) W _ ?side1 ?side2 av.out).mono ?_); (case side1 => exact cP (zO A.out HB.out)); (case side2 => exact ag.out); rintro e w' ⟨rfl, ⟨nd, rfl⟩⟩; (try first | exact dwD | exact dwE); have s : 0 ≤ (a3 : Int) := ofD; have u : a3 < (a.length : Int) := ofD; obtain ⟨I, ah, ai, Y, g, l, m⟩ := Zca ab.out a3 s u; obtain rfl : af = I := (by injection Y); replace g := (HB.out.cell (wB w g)).trans g; have y := mA m; have ae := mA l; clear m l; replace s := eq_true s; replace u := eq_true u; have v : 0 ≤ (b : Int) := ofD; have x : b < ((Zah a a3).length : Int) := ofD; obtain ⟨ap, aa, i⟩ := zL y.out b v x; cases aa; replace i := (HB.out.cell (wB w i)).trans i; replace v := eq_true v; replace x := eq_true x) | (go_at_call 103; (with_reducible refine (Za5.calls _ _ l1 (rd (Zah a a3) b) X _ ?side1 ?side2 aw.out).mono ?_); (case side1 => exact cP (zO A.out (bW))); (case side2 => exact ag.out); rintro e w' ⟨rfl, ⟨nd, rfl⟩⟩; (try first | exact dwD | exact dwE)))
   repeat (go_quiet (first | (go_at_call 103; (with_reducible refine (Za5.calls _ _ l1 (rd (Zah a a2) b) W _ ?side1 ?side2 av.out).mono ?_); (case side1 => exact cP (zO A.out HB.out)); (case side2 => exact ag.out); rintro e w' ⟨rfl, ⟨nd, rfl⟩⟩; (try first | exact dwD | exact dwE); have s : 0 ≤ (a3 : Int) := ofD; have u : a3 < (a.length : Int) := ofD; obtain ⟨I, ah, ai, Y, g, l, m⟩ := Zca ab.out a3 s u; obtain rfl : af = I := (by injection Y); replace g := (HB.out.cell (wB w g)).trans g; have y := mA m; have ae := mA l; clear m l; replace s := eq_true s; replace u := eq_true u; have v : 0 ≤ (b : Int) := ofD; have x : b < ((Zah a a3).length : Int) := ofD; obtain ⟨ap, aa, i⟩ := zL y.out b v x; cases aa; replace i := (HB.out.cell (wB w i)).trans i; replace v := eq_true v; replace x := eq_true x) | (go_at_call 103; (with_reducible refine (Za5.calls _ _ l1 (rd (Zah a a3) b) X _ ?side1 ?side2 aw.out).mono ?_); (case side1 => exact cP (zO A.out (bW))); (case side2 => exact ag.out); rintro e w' ⟨rfl, ⟨nd, rfl⟩⟩; (try first | exact dwD | exact dwE))); try go_wp2_with (first | (go_at_call 103; (with_reducible refine (Za5.calls _ _ l1 (rd (Zah a a2) b) W _ ?side1 ?side2 av.out).mono ?_); (case side1 => exact cP (zO A.out HB.out)); (case side2 => exact ag.out); rintro e w' ⟨rfl, ⟨nd, rfl⟩⟩; (try first | exact dwD | exact dwE); have s : 0 ≤ (a3 : Int) := ofD; have u : a3 < (a.length : Int) := ofD; obtain ⟨I, ah, ai, Y, g, l, m⟩ := Zca ab.out a3 s u; obtain rfl : af = I := (by injection Y); replace g := (HB.out.cell (wB w g)).trans g; have y := mA m; have ae := mA l; clear m l; replace s := eq_true s; replace u := eq_true u; have v : 0 ≤ (b : Int) := ofD; have x : b < ((Zah a a3).length : Int) := ofD; obtain ⟨ap, aa, i⟩ := zL y.out b v x; cases aa; replace i := (HB.out.cell (wB w i)).trans i; replace v := eq_true v; replace x := eq_true x) | (go_at_call 103; (with_reducible refine (Za5.calls _ _ l1 (rd (Zah a a3) b) X _ ?side1 ?side2 aw.out).mono ?_); (case side1 => exact cP (zO A.out (bW))); (case side2 => exact ag.out); rintro e w' ⟨rfl, ⟨nd, rfl⟩⟩; (try first | exact dwD | exact dwE))))
   go_roundg k1
   case measure => have := aZ.out; omega
   case rel => exact ⟨(wrap64 (b + 1)), (eW), H', ⟨by have := aZ.out; omega⟩, ⟨bP j.out⟩, ⟨bW⟩⟩
end Go.Proofs.Ytgindgodfcfgkaa.P
end M1
