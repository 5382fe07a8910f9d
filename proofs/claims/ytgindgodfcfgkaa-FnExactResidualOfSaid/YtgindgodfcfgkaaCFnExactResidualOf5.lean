import Derived.Test.YtgindgodfcfgkaaCFnExactResidualOf2
set_option maxHeartbeats 8000000
set_option maxRecDepth 100000
section M0
namespace Go.Proofs.Ytgindgodfcfgkaa.P
open Go.RowKit Go.Proofs.Ytgindgodfcfgkaa.Sh Go.Proofs.YtgindgodfcfgkaaW.PrintWords Go.Proofs.YtgindgodfcfgkaaW.PrintLast Go.Proofs.YtgindgodfcfgkaaW.PrintMore
open Kd
attribute [local go_sem] Zcc Zcd Zck Zcl Zb2 Zb3 Zce Zcb   -- for this text's walks alone
set_option linter.unusedVariables false
set_option linter.unusedSimpArgs false
def bits_Mul64.f (a0 : Int) (a1 : Int) : Option (Int × Int) := some (IntKind.u64.wrap ((IntKind.u64.wrap ((IntKind.u64.wrap ((a0 / 4294967296) * (a1 / 4294967296))) + ((IntKind.u64.wrap ((IntKind.u64.wrap ((a0 / 4294967296) * (Go.bits .and .u64 a1 4294967295))) + ((IntKind.u64.wrap ((Go.bits .and .u64 a0 4294967295) * (Go.bits .and .u64 a1 4294967295))) / 4294967296))) / 4294967296))) + ((IntKind.u64.wrap ((Go.bits .and .u64 (IntKind.u64.wrap ((IntKind.u64.wrap ((a0 / 4294967296) * (Go.bits .and .u64 a1 4294967295))) + ((IntKind.u64.wrap ((Go.bits .and .u64 a0 4294967295) * (Go.bits .and .u64 a1 4294967295))) / 4294967296))) 4294967295) + (IntKind.u64.wrap ((Go.bits .and .u64 a0 4294967295) * (a1 / 4294967296))))) / 4294967296)), IntKind.u64.wrap (a0 * a1))
theorem bits_Mul64.calls (a0 : Int) (a1 : Int) (r1 : Int) (r2 : Int) (w : World) (h : bits_Mul64.f a0 a1 = some (r1, r2)) :
  Calls Try.prog 116 #[.int .u64 a0, .int .u64 a1] w fun e w' => e = .returned (.tuple #[.int .u64 r1, .int .u64 r2]) ∧ Zas w w' := by
 unfold bits_Mul64.f at h
 have H := h
 clear h
 simp only [Option.some.injEq, Prod.mk.injEq] at H
 obtain ⟨rfl, rfl⟩ := H
 go_enter Try.func116, Try.ntmps116
 go_wp2
 go_ret2
 exact ⟨eW, by repeat (first | exact Zas.refl _ | apply Zas.step)⟩
def bits_Mul.f (a0 : Int) (a1 : Int) : Option (Int × Int) := (bits_Mul64.f a0 a1).bind fun a => (some (a.1, a.2))
theorem bits_Mul.calls (a0 : Int) (a1 : Int) (r1 : Int) (r2 : Int) (w : World) (h : bits_Mul.f a0 a1 = some (r1, r2)) :
  Calls Try.prog 108 #[.int .u64 a0, .int .u64 a1] w fun e w' => e = .returned (.tuple #[.int .u64 r1, .int .u64 r2]) ∧ Zas w w' := by
 unfold bits_Mul.f at h
 have H := h
 clear h
 replace H := bE H
 obtain ⟨⟨a, b⟩, A30, H⟩ := H
 try dsimp only at H
 have A3 := mA A30
 clear A30
 simp only [Option.some.injEq, Prod.mk.injEq] at H
 obtain ⟨rfl, rfl⟩ := H
 go_enter Try.func108, Try.ntmps108
 go_wp2_with (first | ((with_reducible refine Zar (f := 116) rfl ?_); refine Za2 (some 25) Try.func116 #[.int .u64 a0, .int .u64 a1] ?_; (with_reducible refine (bits_Mul64.calls a0 a1 a b _ A3.out).mono ?_); rintro e w' ⟨rfl, ⟨nd, rfl⟩⟩; refine ⟨_, rfl, ?_⟩))
 go_ret2
 exact ⟨eW, by repeat (first | exact Zas.refl _ | apply Zas.step)⟩
theorem rp_add (g j : Nat) : (⟨g, 0, none⟩ : Addr).add j = ⟨g, j, none⟩ := by unfold Addr.add; split <;> simp_all
theorem rp_copy {P : Program} {o : Oper} {a : Act} {Q : Exit → Act → World → Prop} {Kc : Act → World → Prop} {ops : Array Oper} {W : World} {base e : Nat} {ok : Nat → Prop} {t : TypeId} {s x : Operand} {g n cap off dLen dCap sLen sCap : Nat} (xs cs : List Int)
    (hw : Region.wanted o (yielded ops a.tmps) = true) (ho : o.op = .call { callee := .builtin .copy, args := #[s, x], argTypes := #[t, t] }) (ht : P.underlying t = some (.slice e)) (hinfo : (P.info? e).map (·.size) = some 1)
    (HO : Kd.R (Kd.int .i64) e W base ok (.slice (some ⟨g, 0, none⟩) n cap) xs) (hs : a.eval s = .slice (some ⟨g, off, none⟩) dLen dCap) (hx : a.eval x = .slice (some ⟨g, 0, none⟩) sLen sCap)
    (hl : cs.length = Nat.min sLen dLen) (hcs : ∀ j, j < cs.length → cs[j]? = xs[j]?) (hfit : off + cs.length ≤ xs.length)
    (h : ∀ w1, Kd.R (Kd.int .i64) e w1 base ok (.slice (some ⟨g, 0, none⟩) n cap) (xs.take off ++ cs ++ xs.drop (off + cs.length)) → W.grownBy w1 (some g) → Kc (a.put o.dst (.int .i64 (cs.length : Int))) w1) :
    if Region.wanted o (yielded ops a.tmps) = true then Oper.wp P o a W Kc Q else Kc (a.put o.dst undef) W := by
  obtain ⟨h0, inner, ⟨hil, hc⟩, hr⟩ := HO
  rcases hc with ⟨hv, _⟩ | ⟨g', cap', cur, hv, hg, hh, h1, h2, h3, h4⟩
  · cases hv
  injection hv with e1 e2 e3
  injection e1 with e1
  injection e1 with e1 _ _
  subst e1 e2 e3
  have b : cur.size = cap := by simpa [Kd.int, Kd.scalar] using h3
  have hin : cur.toList.take xs.length = xs.map (Value.int .i64) := by
    have h5 : cur.toList.take xs.length = inner := by simpa [Kd.int, Kd.scalar] using h4
    rw [h5]
    have c : inner.length = xs.length := by have := hr.1; simpa [Kd.int, Kd.scalar] using this
    apply List.ext_getElem?
    intro j
    by_cases hj : j < xs.length
    · have h3 : (inner.drop (j * 1)).take 1 = [Value.int .i64 xs[j]] := hr.2 j xs[j] (List.getElem?_eq_getElem hj)
      have h4 : ((inner.drop (j * 1)).take 1)[0]? = ([Value.int .i64 xs[j]] : List Value)[0]? := by rw [h3]
      rw [List.getElem?_take_of_lt (by omega), List.getElem?_drop] at h4
      rw [List.getElem?_map, List.getElem?_eq_getElem hj]
      simpa using h4
    · rw [List.getElem?_eq_none (by omega), List.getElem?_eq_none (by rw [List.length_map]; omega)]
  have hcell : ∀ j, j < xs.length → cur[j]? = (xs[j]?).map (Value.int .i64) := by
    intro j hj
    have h5 : (cur.toList.take xs.length)[j]? = (xs.map (Value.int .i64))[j]? := by rw [hin]
    rw [List.getElem?_take_of_lt hj, List.getElem?_map] at h5
    simpa using h5
  have hrun := run_copy_cells (P := P) W t t o.type e g off dLen dCap ⟨g, 0, none⟩ sLen sCap (cs.map (Value.int .i64)) ht hinfo (by rw [List.length_map]; exact hl)
    (fun j v hj => by
      rw [List.getElem?_map] at hj
      obtain ⟨y, hy, rfl⟩ := Option.map_eq_some_iff.1 hj
      have hjl : j < cs.length := (List.getElem?_eq_some_iff.1 hy).1
      have hadd := rp_add g j
      rw [hadd, cell_of_row W g j cur e (0, 0) hh, hcell j (by omega), ← hcs j hjl, hy]
      rfl)
    (fun j hj => by rw [List.length_map] at hj; rw [cell_of_row W g _ cur e (0, 0) hh]; exact (by rw [Array.getElem?_eq_getElem (show off + j < cur.size by omega)]; rfl)) (fun j _ => Zae hh _)
    (by intro u hu; simp only [List.mem_map] at hu; obtain ⟨q, _, rfl⟩ := hu; rfl)
  obtain ⟨cur', h6, h7, h8⟩ := setCells_row (cs.map (Value.int .i64)) off W cur hh (by rw [List.length_map]; omega)
  obtain ⟨s1, s2, s3, s4⟩ := setCells_same g (cs.map (Value.int .i64)) off W
  rw [if_pos hw]
  unfold Oper.wp execOp
  simp only [ho, resolve, invoke, builtin, Sem.run_bind, Sem.run_pure, Result.andThen_ok, List.map_toArray, List.map_cons, List.map_nil, hs, hx, hrun]
  have hnl : (xs.take off ++ cs ++ xs.drop (off + cs.length)).length = xs.length := by
    simp only [List.length_append, List.length_take, List.length_drop]
    omega
  have hmap : cur'.toList.take xs.length = (xs.take off ++ cs ++ xs.drop (off + cs.length)).map (Value.int .i64) := by
    rw [h8, List.length_map]
    simp only [List.map_append, List.map_take, List.map_drop, ← hin]
    rw [List.take_append, List.take_append]
    simp only [List.length_append, List.length_take, List.length_map, Array.length_toList, List.take_take, List.drop_take]
    rw [Nat.min_eq_left (show off ≤ cur.size by omega), Nat.min_eq_left (show off ≤ xs.length by omega)]
    rw [List.take_of_length_le (l := List.map (Value.int .i64) cs) (by rw [List.length_map]; omega)]
    rw [show xs.length - (off + cs.length) = xs.length - (off + cs.length) from rfl, List.take_drop, List.drop_take]
    congr 2
    congr 1
    omega
  have hfin := fun p1 p2 p3 => h (W.setCells g off (cs.map (Value.int .i64))) ⟨h0, (xs.take off ++ cs ++ xs.drop (off + cs.length)).map (Value.int .i64), ⟨p1, .inr ⟨g, cap, cur', by rw [hnl], hg, h6, by rw [hnl]; omega, h2, by simpa [Kd.int, Kd.scalar, h7] using b, p2⟩⟩, p3⟩ ⟨s1, s2, s3, by rw [s4]; exact Nat.le_refl _, fun k _ hk => setCells_far _ _ k (fun he => hk (by rw [he]))⟩
  rw [List.length_map]
  refine hfin ?_ ?_ ?_
  · simp [Kd.int, Kd.scalar]
  · simp only [Kd.int, Kd.scalar, Nat.mul_one]
    rw [hnl]
    exact hmap
  · refine ⟨by simp [Kd.int, Kd.scalar], fun j p hj => ?_⟩
    have hj' : j < (xs.take off ++ cs ++ xs.drop (off + cs.length)).length := (List.getElem?_eq_some_iff.1 hj).1
    have hp : (xs.take off ++ cs ++ xs.drop (off + cs.length))[j] = p := (List.getElem?_eq_some_iff.1 hj).2
    show (((xs.take off ++ cs ++ xs.drop (off + cs.length)).map (Value.int .i64)).drop (j * 1)).take 1 = [Value.int .i64 p]
    rw [Nat.mul_one, List.drop_eq_getElem_cons (by rw [List.length_map]; exact hj'), List.take_succ_cons, List.take_zero, List.getElem_map, hp]
def Zcv (x : Int) (c n : Nat) : List Int := List.replicate n x ++ List.replicate (c - n) 0
theorem rp_len {x : Int} {c n : Nat} (h : n ≤ c) : (Zcv x c n).length = c := by
  unfold Zcv
  rw [List.length_append, List.length_replicate, List.length_replicate]
  omega
theorem rp_first (x : Int) (c : Nat) : [x].take (min 1 (List.replicate c (0 : Int)).length) ++ (List.replicate c (0 : Int)).drop (min 1 (List.replicate c (0 : Int)).length) = Zcv x c (min 1 c) := by
  unfold Zcv
  rw [List.length_replicate, List.drop_replicate]
  cases c with
  | zero => rfl
  | succ c => simp
theorem rp_next (x : Int) (c n m : Nat) (hn : n + m ≤ c) (hm : m ≤ n) : (Zcv x c n).take n ++ (Zcv x c n).take m ++ (Zcv x c n).drop (n + ((Zcv x c n).take m).length) = Zcv x c (n + m) := by
  have h1 : (Zcv x c n).take n = List.replicate n x := by
    unfold Zcv
    rw [List.take_left' (by simp)]
  have h2 : (Zcv x c n).take m = List.replicate m x := by
    unfold Zcv
    rw [List.take_append_of_le_length (by simpa using hm), List.take_replicate, Nat.min_eq_left hm]
  rw [h1, h2, List.length_replicate]
  unfold Zcv
  rw [List.drop_append, List.drop_eq_nil_of_le (by simp), List.nil_append, List.length_replicate, List.drop_replicate, List.replicate_append_replicate, show c - n - (n + m - n) = c - (n + m) by omega]
theorem rp_cutA {g c c7 n : Nat} (hn : n < c) (hcc : c ≤ c7) : ∀ W, (Instr.slice 33 (.slice (some ⟨g, 0, none⟩) c c7) (some (.int .i64 (n : Int))) none none).run Try.prog W = .ok (.slice (some ⟨g, n, none⟩) (c - n) (c7 - n)) W := by
  obtain ⟨i0, a, _, hsz, _⟩ := info_parts info2
  intro W
  rw [cut_from (P := Try.prog) 33 2 .i64 Try.underlying33 a 1 hsz (some ⟨g, 0, none⟩) c c7 (n : Int) (by omega) (by omega) W, if_neg (by omega), Int.toNat_natCast, Nat.mul_one]
  simp only [Option.map_some, rp_add]
theorem rp_cutB {g c c7 n : Nat} (hn : n < c) (hcc : c ≤ c7) : ∀ W, (Instr.slice 33 (.slice (some ⟨g, 0, none⟩) c c7) none (some (.int .i64 (n : Int))) none).run Try.prog W = .ok (.slice (some ⟨g, 0, none⟩) n c7) W := by
  obtain ⟨i0, a, _, hsz, _⟩ := info_parts info2
  intro W
  rw [cut_to (P := Try.prog) 33 2 .i64 Try.underlying33 a (some ⟨g, 0, none⟩) c c7 (n : Int) (by omega) (by omega) hcc W, Int.toNat_natCast]
def Zbx.f (l0 : List Int) (a1 : Int) : Option (List Int) := if l0.length = 1 ∧ 0 ≤ a1 ∧ a1 ≤ 8 then some (List.replicate a1.toNat (rd l0 0)) else none
theorem rp_mul : ∀ c : Fin 9, bits_Mul.f 1 (c.val : Int) = some (0, (c.val : Int)) := by decide +kernel
theorem Zbx.calls (A0 : Option Addr) (c0 : Nat) (l0 : List Int) (a1 : Int) (r : List Int) (w : World) (k : Kd.C (Kd.int .i64) w A0 l0.length l0) (s : l0.length ≤ c0) (h : Zbx.f l0 a1 = some r) :
    Calls Try.prog 95 #[.slice A0 l0.length c0, .int .i64 a1] w fun e w' => ∃ m : Value, e = .returned (m) ∧ Kd.R (Kd.int .i64) 2 w' w.heap.size (fun _ => True) m r ∧ Below w.heap.size w w' := by
  unfold Zbx.f at h
  by_cases hc : l0.length = 1 ∧ 0 ≤ a1 ∧ a1 ≤ 8; rotate_left
  · rw [if_neg hc] at h
    cases h
  rw [if_pos hc] at h
  obtain rfl := Option.some.inj h
  clear h
  obtain ⟨hl, h0, h8⟩ := hc
  obtain ⟨x, rfl⟩ : ∃ x, l0 = [x] := List.length_eq_one_iff.1 hl
  obtain ⟨c, rfl⟩ : ∃ c : Nat, a1 = c := ⟨a1.toNat, by omega⟩
  have o : c ≤ 8 := by omega
  obtain ⟨ad, rfl⟩ : ∃ ad, A0 = some ad := by
    obtain ⟨ad, e, _⟩ := k.2.2 (by simp)
    exact ⟨ad, e⟩
  have hmul : bits_Mul.f 1 (c : Int) = some (0, (c : Int)) := rp_mul ⟨c, by omega⟩
  have HC := mA k
  have HM := mA hmul
  have H8 := mA o
  have HB := mA (Below.refl w.heap.size w)
  have t : IntKind.u64.wrap (c : Int) = (c : Int) := by show (c : Int) % 18446744073709551616 = c; omega
  have u : IntKind.i64.wrap (c : Int) = (c : Int) := by rw [IntKind.wrap_i64]; omega
  have v : decide ((c : Int) > 9223372036854775807) = false := decide_eq_false (by omega)
  have hng : decide ((c : Int) < 0) = false := decide_eq_false (by omega)
  clear k hmul o h0 h8 hl s
  rw [show rd [x] 0 = x from rfl, Int.toNat_natCast]
  simp only [List.length_cons, List.length_nil, Nat.zero_add]
  go_enter Try.func95, Try.ntmps95
  go_wp2_with (first
    | ((with_reducible refine Zar (f := 108) rfl ?_); refine Za2 (some 18) Try.func108 #[.int .u64 1, .int .u64 (c : Int)] ?_; (with_reducible refine (bits_Mul.calls 1 (c : Int) 0 (c : Int) _ HM.out).mono ?_); rintro e w' ⟨rfl, ⟨nd, rfl⟩⟩; refine ⟨_, rfl, ?_⟩)
    | ((with_reducible refine Zap (N := 30) rfl ?_); refine xI (Kd.int .i64) _ 2 rfl (N := 30) rfl 33 _ _ rfl (c : Int) rfl rfl Try.underlying33 (.int .i64 0) 8 info2 rfl (by decide) (by omega) 0 (ok := fun _ => True) (okp := fun _ => True) rfl (fun _ hk => hk) trivial (by omega) (by have := H8.out; omega) (Below.refl _ _) (Nat.le_refl _) ?_; intro p B ho hb hg_ hnew_; clear hg_ hnew_; rw [Int.toNat_natCast] at ho; have HO := mA (zV ho (Zan (bW))); have l := mA (Zaf (bW) hb); have q := mA (zL HC.out l.out); clear HB ho hb)
    | ((with_reducible refine Zbp (b := .copy) (xs := #[.tmp 31, .tmp 32]) rfl ?_); refine Kd.R_copy (enc := Value.int .i64) (h1 := fun _ => rfl) 0 (w0 := w) w.heap.size rfl (.tmp 31) (.tmp 32) 33 33 2 rfl Try.underlying33 (by rfl) p (List.replicate c 0) [x] (some ad) 1 c0 (fun _ => True) rfl rfl HO.out q.out l.out (Zan (bW)) ?_; intro y ho hb hg_; clear hg_; rw [rp_first] at ho; have a := mA (show Kd.R (Kd.int .i64) 2 y w.heap.size (fun _ => True) p (Zcv x c (min 1 c)) from ho); have d := mA hb; obtain ⟨A7, c7, e7⟩ := zP a.out; rw [rp_len (Nat.min_le_right _ _)] at e7; subst e7; rw [List.length_replicate]; clear HO l q ho hb))
  go_loopg [8] 16 (fun kq v8 w' => ∃ n : Nat, v8 = .int .i64 (n : Int) ∧ Zad (n ≤ c ∧ (n = 0 → c = 0) ∧ c - n ≤ kq ∧ kq ≤ 16) ∧ Zad (Kd.R (Kd.int .i64) 2 w' w.heap.size (fun _ => True) (.slice A7 c c7) (Zcv x c n)) ∧ Zad (Below w.heap.size w w'))
  case atStart => exact ⟨min 1 c, (eW), ⟨by have := H8.out; omega⟩, a, d⟩
  case round =>
    clear a d
    obtain ⟨n, rfl, HN, a, d⟩ := hrel
    by_cases hlt : n < c; rotate_left
    · have hltb := dF hlt
      go_wp2
      go_ret
      have hn : n = c := by have := HN.out; omega
      subst hn
      refine ⟨_, rfl, ?_, d.out⟩
      have := a.out
      unfold Zcv at this
      rw [Nat.sub_self, List.replicate_zero, List.append_nil] at this
      exact this
    have hltb := dT hlt
    cases gk with
    | zero => exact absurd HN.out.2.2.1 (by omega)
    | succ k1 =>
      have hnc := HN.out.1
      obtain ⟨g, hg, hA, hcc⟩ : ∃ g, w.heap.size ≤ g ∧ A7 = some ⟨g, 0, none⟩ ∧ c ≤ c7 := by
        obtain ⟨g, cap, e7, hg, _, _⟩ := yM a.out (by rw [rp_len hnc]; omega)
        injection e7 with e7 _ e8
        exact ⟨g, hg, e7, by have := (zK a.out).2.1; omega⟩
      subst hA
      have HLT := mA hlt
      have HNC := mA hnc
      have HG := mA hg
      have HCC := mA hcc
      clear hlt hnc hg hcc t u v hng
      go_wp2
      have hlt := HLT.out
      have hnc := HNC.out
      have hg := HG.out
      have hcutA := rp_cutA (g := g) HLT.out HCC.out
      have hcutB := rp_cutB (g := g) HLT.out HCC.out
      refine start_ (n := 10) (S := fun _ => True) (ds := []) #[false, false, false, false, false, false, false, false, false, false] (by kernel_rfl) rfl rfl trivial (fun hHeld => ?_)
      refine Zav (i := 0) (N := some 38) (by kernel_rfl) ?_
      refine Zav (i := 1) (N := some 39) (by kernel_rfl) ?_
      refine Zav (i := 2) (N := some 40) (by kernel_rfl) ?_
      refine Zav (i := 3) (N := some 41) (by kernel_rfl) ?_
      refine Zav (i := 4) (N := some 42) (by kernel_rfl) ?_
      refine Zav (i := 5) (N := some 43) (by kernel_rfl) ?_
      refine Zav (i := 6) (N := some 44) (by kernel_rfl) ?_
      refine one_ (i := 7) (N := some 45) #[true, true, true, true, true, true, true, true, false, false] rfl rfl (by kernel_rfl) (by decide) (fun K hK => ?_)
      refine rp_copy (base := w.heap.size) (off := n) (Zcv x c n) ((Zcv x c n).take (min n (c - n))) (by rfl) (by rfl) Try.underlying33 (by rfl) (zA a.out) (by rfl) (by rfl) ?_ ?_ ?_ ?_
      · rw [List.length_take, rp_len hnc]; show min (min n (c - n)) c = min n (c - n); omega
      · intro j hj
        rw [List.length_take] at hj
        rw [List.getElem?_take_of_lt (by omega)]
      · rw [List.length_take, rp_len hnc]; omega
      intro w1 ho hgr
      rw [rp_next x c n (min n (c - n)) (by omega) (by omega)] at ho
      rw [show ((Zcv x c n).take (min n (c - n))).length = min n (c - n) by rw [List.length_take, rp_len hnc]; omega]
      have z := mA ho
      have A := mA ((Za3 d.out).grown hgr (Za3 d.out).size (fun k_ e_ => by injection e_ with e_; rw [← e_]; exact hg))
      clear ho hgr
      refine hK.out _ _ trivial (fun hHeld => ?_)
      clear hK K
      refine putS 45 ?_
      have hadd : IntKind.i64.wrap ((n : Int) + ((min n (c - n) : Nat) : Int)) = ((n + min n (c - n) : Nat) : Int) := by rw [IntKind.wrap_i64]; have := H8.out; omega
      clear hlt hnc hg
      refine Zav (i := 8) (N := some 46) (by kernel_rfl) ?_
      refine Zav (i := 9) (N := some 8) (by kernel_rfl) ?_
      refine done_ (by kernel_rfl) ?_
      try go_wp2
      go_roundg k1
      case measure => have := HN.out; omega
      case rel => exact ⟨n + min n (c - n), (eW), ⟨by have := HN.out; omega⟩, z, A⟩
def Zcy.f (a0 : Int) : Option (Int × Int × List Bool × (List (List Int))) := (Zbx.f (([(-1)] : List Int)) a0).bind fun a => (some (a0, 0, (([false] : List Bool)), (([a] : List (List Int)))))
theorem Zcy.calls (a0 : Int) (r1 : Int) (r2 : Int) (r3 : List Bool) (r4 : List (List Int)) (w : World) (h : Zcy.f a0 = some (r1, r2, r3, r4)) :
  Calls Try.prog 53 #[.int .i64 a0] w fun e w' => ∃ J K : Value, e = .returned (.agg #[.int .i64 r1, .int .i64 r2, J, K]) ∧ Kd.R Kd.bool 4 w' w.heap.size (fun _ => True) J r3 ∧ Kd.S (Kd.slice 2 (Kd.int .i64)) 33 w' w.heap.size (fun _ => True) K r4 ∧ Below w.heap.size w w' := by
 have aj := Try.underlying63
 have HB := mA (Below.refl w.heap.size w)
 unfold Zcy.f at h
 have H := h
 clear h
 obtain ⟨j, k⟩ : ∃ y_ : List Bool, y_ = (([false] : List Bool)) := ⟨_, rfl⟩
 rw [← k] at H
 have B := mA k
 clear k
 obtain ⟨g, l⟩ : ∃ y_ : List Int, y_ = (([(-1)] : List Int)) := ⟨_, rfl⟩
 rw [← l] at H
 have D := mA l
 clear l
 replace H := bE H
 obtain ⟨m, L, H⟩ := H
 have A2 := mA L
 clear L
 obtain ⟨y, n⟩ : ∃ y_ : List (List Int), y_ = (([m] : List (List Int))) := ⟨_, rfl⟩
 rw [← n] at H
 have E := mA n
 clear n
 simp only [Option.some.injEq, Prod.mk.injEq] at H
 obtain ⟨rfl, rfl, rfl, rfl⟩ := H
 go_enter Try.func53, Try.ntmps53
 go_wp2_with (first | ((with_reducible refine Zap (N := 2) rfl ?_); refine boxS (N := 2) (cs := #[.int .i64 0, .int .i64 0, .slice none 0 0, .slice none 0 0]) (t := 63) ?_; intro b hg w3 hbox hb; have a := mA (hbox); have ah := geW (w := w) hg; have ai := geW (w := w) hg; replace HB := mA (Zaf (bW) hb); clear hb hbox hg) | ((with_reducible refine Zap (N := 4) rfl ?_); refine yS Kd.bool _ 4 ?hg (N := 4) ?hd (xs := ([false] : List Bool)) (inner := [.bool false]) (ok := fun _ => True) (okp := fun _ => True) ?hr ?hp (fun _ hk => hk) trivial (Below.refl _ _) (Nat.le_refl _) (by simp) ?_; (case hd => rfl); (case hg => rfl); (case hr => first | (go_simp; done) | (go_simp; rfl)); (case hp => exact (Reps.one (show Kd.M Kd.bool _ _ _ false [.bool false] from rfl) (Reps.none _ _))); intro ak w4 s hb hg_ hnew_; clear hg_ hnew_; (first | rw [← B.out] at s | (simp only [Int.reduceToNat] at s; rw [← B.out] at s)); have d := mA (zV s (Zan (bW))); replace a := mA (blkB a.out hb); replace HB := mA (Zaf (bW) hb); clear hb s) | ((with_reducible refine Zap (N := 5) rfl ?_); refine yS (Kd.int .i64) _ 2 ?hg (N := 5) ?hd (xs := ([(-1)] : List Int)) (inner := [.int .i64 (-1)]) (ok := fun _ => True) (okp := fun _ => True) ?hr ?hp (fun _ hk => hk) trivial (Below.refl _ _) (Nat.le_refl _) (by simp) ?_; (case hd => rfl); (case hg => rfl); (case hr => first | (go_simp; done) | (go_simp; rfl)); (case hp => exact (Reps.one (show Kd.M (Kd.int .i64) _ _ _ (-1) [.int .i64 (-1)] from rfl) (Reps.none _ _))); intro al w6 u hb hg_ hnew_; clear hg_ hnew_; (first | rw [← D.out] at u | (simp only [Int.reduceToNat] at u; rw [← D.out] at u)); replace d := mA (zM (rP d.out) hb); have c := mA (zV u (Zan (bW))); replace a := mA (blkB a.out hb); replace HB := mA (Zaf (bW) hb); clear hb u; obtain ⟨v, x, ag⟩ := zP c.out; subst ag) | ((with_reducible refine Zar (f := 95) rfl ?_); refine Za2 (some 7) Try.func95 #[.slice v g.length x, .int .i64 a0] ?_; (with_reducible refine (Zbx.calls _ _ g a0 m _ ?side1 ?side2 A2.out).mono ?_); (case side1 => exact cP ((zK c.out).2.2)); (case side2 => exact (zK c.out).2.1); rintro e w9 ⟨am, rfl, I, hb⟩; refine ⟨_, rfl, ?_⟩; replace d := mA (zM (rP d.out) hb); have o := mA (zV (yA I (zN (rP c.out))) (Zan (bW))); replace c := mA (zZ (rP c.out) (zT I) hb); replace a := mA (blkB a.out hb); replace HB := mA (Zaf (bW) hb); (try clear hb); (try clear hb2); (try clear hk); (try clear hi); (try clear I); obtain ⟨O, P, T⟩ := zP o.out; subst T) | ((with_reducible refine Zap (N := 8) rfl ?_); refine Kd.S_lit1 (Kd.slice 2 (Kd.int .i64)) w.heap.size 33 ?hg (N := 8) ?hd (xs := ([m] : List (List Int))) (inner := [.slice O m.length P]) (ok := (fun k_ => some k_ ≠ (.slice v g.length x : Value).ownBlock)) (okp := (fun k_ => some k_ ≠ (.slice v g.length x : Value).ownBlock)) ?hr ?hp (fun _ hk => hk) ((show ∀ k_, w9.heap.size ≤ k_ → (fun k_ => some k_ ≠ (.slice v g.length x : Value).ownBlock) k_ from fun k_ hk => zY (zN (rP c.out)) k_ hk) _ (Nat.le_refl _)) (Below.refl _ _) ((Zan (bW))) (by simp) ?_; (case hd => rfl); (case hg => rfl); (case hr => first | (go_simp; done) | (go_simp; rfl)); (case hp => exact ⟨_, rfl, rfl, Kd.M_row (by (with_reducible repeat (first | apply zD | apply zE | apply zA)); exact (zC (ok' := (fun k_ => some k_ ≠ (.slice v g.length x : Value).ownBlock)) (o.out) (fun k_ hk => hk.2)))⟩); intro an ao i hb hg_ hnew_; have hown_ := own_new hnew_; clear hg_ hnew_; (first | rw [← E.out] at i | (simp only [Int.reduceToNat] at i; rw [← E.out] at i)); replace d := mA (zM (rP d.out) hb); replace c := mA (zM (rP c.out) hb); have G := mA (i); replace a := mA (blkB a.out hb); replace HB := mA (Zaf (bW) hb); clear o hb i hown_; obtain ⟨z, A, U⟩ := yD G.out; subst U; obtain ⟨q, r, W⟩ := zP d.out; subst W; obtain ⟨X, Y, aa, ab⟩ := Zau a.out; obtain ⟨ac, ad, ae, af⟩ := frz4 a.out))
 refine bodyPost_ret (results_cell_row rfl _ _ b 63 #[.int .i64 a0, .int .i64 0, .slice q j.length r, .slice z y.length A] (0, 0) _ rfl (by (with_reducible repeat (first | refine Zac ?_ _ | refine Zab ?_ | refine Zaa ?_ _)); refine Zao (cs := #[.int .i64 a0, .int .i64 0, .slice q j.length r, .slice none 0 0]) ?_ 3 _ rfl; (with_reducible repeat (first | refine Zac ?_ _ | refine Zab ?_ | refine Zaa ?_ _)); refine Zao (cs := #[.int .i64 a0, .int .i64 0, .slice none 0 0, .slice none 0 0]) ?_ 2 _ rfl; (with_reducible repeat (first | refine Zac ?_ _ | refine Zab ?_ | refine Zaa ?_ _)); refine Zao (cs := #[.int .i64 a0, .int .i64 0, .slice none 0 0, .slice none 0 0]) ?_ 1 _ rfl; (with_reducible repeat (first | refine Zac ?_ _ | refine Zab ?_ | refine Zaa ?_ _)); refine Zao (cs := #[.int .i64 0, .int .i64 0, .slice none 0 0, .slice none 0 0]) ?_ 0 _ rfl; exact bP a.out) Try.underlying63 rfl (by kernel_rfl)) rfl ?_
 exact ⟨_, _, eW, by (with_reducible repeat (first | apply zD | apply zE | apply zA)); exact zC (zH (p := ⟨b, 3, none⟩) (zH (p := ⟨b, 2, none⟩) (zH (p := ⟨b, 1, none⟩) (zH (p := ⟨b, 0, none⟩) (zX d.out a.out (by decide)) (fun _ hk => hk.2) (.int .i64 a0)) (fun _ hk => hk.2) (.int .i64 0)) (fun _ hk => hk.2) (.slice q j.length r)) (fun _ hk => hk.2) (.slice z y.length A)) (fun _ hk => trivial), by (with_reducible repeat (first | apply zI | apply zJ | apply zG)); exact zF (zB (p := ⟨b, 3, none⟩) (zB (p := ⟨b, 2, none⟩) (zB (p := ⟨b, 1, none⟩) (zB (p := ⟨b, 0, none⟩) (zR G.out a.out (by decide)) (fun _ hk => hk.2) (.int .i64 a0)) (fun _ hk => hk.2) (.int .i64 0)) (fun _ hk => hk.2) (.slice q j.length r)) (fun _ hk => hk.2) (.slice z y.length A)) (fun _ hk => trivial), bW⟩
def Zb0.l0 : Nat → List Int → List Int → Int → Int → Option (ByteArray)
 | 0, _, _, _, _ => none
 | k + 1, x3, x9, b, a => if a < b then (if 0 ≤ a then (if a < (x9.length : Int) then (if a < (x3.length : Int) then (Zb0.l0 k (x3.set (a : Int).toNat ((rd x9 a) % 256)) x9 b (wrap64 (a + 1))) else (none)) else (none)) else (none)) else (some (strOfNums x3))
def Zb0.f (k : Nat) (l0 : List Int) : Option (ByteArray) := if 0 ≤ (l0.length : Int) then (if ((l0.length : Int) : Int).toNat ≤ 281474976710656 then (Zb0.l0 k (List.replicate ((l0.length : Int) : Int).toNat 0) l0 (l0.length : Int) 0) else (none)) else (none)
theorem Zb0.calls (k : Nat) (A0 : Option Addr) (c0 : Nat) (l0 : List Int) (r : ByteArray) (w : World) (G : Kd.C (Kd.int .i64) w A0 l0.length l0) (I : l0.length ≤ c0) (h : Zb0.f k l0 = some r) :
  Calls Try.prog 109 #[.slice A0 l0.length c0] w fun e w' => e = .returned (.string r) ∧ Below w.heap.size w w' := by
 have ac := mA G
 have am := mA I
 clear G I
 have HB := mA (Below.refl w.heap.size w)
 unfold Zb0.f at h
 have H := h
 clear h
 by_cases c2 : 0 ≤ (l0.length : Int); rotate_left
 ·rw [if_neg c2] at H
  exact absurd H (by simp)
 rw [if_pos c2] at H
 have K := eq_true c2
 have L := dT c2
 clear c2
 by_cases c3 : ((l0.length : Int) : Int).toNat ≤ 281474976710656; rotate_left
 ·rw [if_neg c3] at H
  exact absurd H (by simp)
 rw [if_pos c3] at H
 have M := eq_true c3
 have O := dT c3
 clear c3
 obtain ⟨T, g⟩ : ∃ y_ : List Int, y_ = (List.replicate ((l0.length : Int) : Int).toNat 0) := ⟨_, rfl⟩
 rw [← g] at H
 have q := mA g
 clear g
 have H' := mA H
 clear H
 go_enter Try.func109, Try.ntmps109
 go_wp2_with (first | ((with_reducible refine Zap (N := 8) rfl ?_); refine xI (Kd.int .u8) _ 5 rfl (N := 8) rfl 43 _ _ rfl (l0.length : Int) rfl rfl Try.underlying43 (.int .u8 0) 1 info5 rfl (by decide) (by omega) 0 (ok := fun _ => True) (okp := fun _ => True) rfl (fun _ hk => hk) trivial (ofD) (Nat.le_trans (Nat.mul_le_mul_right _ (ofD : (l0.length : Int).toNat ≤ 281474976710656)) (by omega)) (Below.refl _ _) (Nat.le_refl _) ?_; intro U w4 j hb hg_ hnew_; clear hg_ hnew_; (first | rw [← q.out] at j | (simp only [Int.reduceToNat] at j; rw [← q.out] at j)); have D := mA (zV j (Zan (bW))); replace HB := mA (Zaf (bW) hb); clear hb j))
 go_loopg [11] k (fun kq v11 w' => ∃ (b : List Int) (a : Int), v11 = .int .i64 a ∧ Zad (Zb0.l0 kq b l0 (l0.length : Int) a = some r) ∧ Zad (kq ≤ k) ∧ Zad (Kd.R (Kd.int .u8) 5 w' w.heap.size (fun _ => True) U b) ∧ Zad (Below w.heap.size w w'))
 case atStart => exact ⟨(T), (0), (eW), H', ⟨Nat.le_refl _⟩, ⟨rP D.out⟩, ⟨bW⟩⟩
 case round =>
  clear H'
  try clear c1
  try clear c2
  try clear K
  try clear L
  try clear p2
  try clear c3
  try clear M
  try clear O
  obtain ⟨b, a, rfl, HA, J, c, HB⟩ := hrel
  cases gk with
  | zero => exact absurd HA.out (by simp [Zb0.l0])
  | succ k1 =>
   have H := HA.out
   clear HA
   simp only [Zb0.l0] at H
   by_cases c6 : a < (l0.length : Int); rotate_left
   ·rw [if_neg c6] at H
    have W := dF c6
    clear c6
    obtain rfl := oI H
    have af := own_string (P := Try.prog) Try.underlying43 Try.underlying5 Try.underlying9 (Kd.own_of_R c.out)
    go_wp2
    go_ret
    exact ⟨eW, bW⟩
   rw [if_pos c6] at H
   have W := dT c6
   clear c6
   by_cases c7 : 0 ≤ a; rotate_left
   ·rw [if_neg c7] at H
    exact absurd H (by simp)
   rw [if_pos c7] at H
   have ah := dT c7
   clear c7
   by_cases c8 : a < (l0.length : Int); rotate_left
   ·rw [if_neg c8] at H
    exact absurd H (by simp)
   rw [if_pos c8] at H
   have ai := dT c8
   clear c8
   by_cases c9 : a < (b.length : Int); rotate_left
   ·rw [if_neg c9] at H
    exact absurd H (by simp)
   rw [if_pos c9] at H
   have aj := dT c9
   clear c9
   obtain ⟨s, i⟩ : ∃ y_ : List Int, y_ = (b.set (a : Int).toNat ((rd l0 a) % 256)) := ⟨_, rfl⟩
   rw [← i] at H
   have E := mA i
   clear i
   have H' := mA H
   clear H
   have l : 0 ≤ (a : Int) := ofD
   have m : a < (l0.length : Int) := ofD
   obtain ⟨ag, X, d⟩ := zO ac.out a l m
   cases X
   replace d := (HB.out.cell (wB w d)).trans d
   replace l := eq_true l
   replace m := eq_true m
   have u : 0 ≤ (a : Int) := ofD
   have x : (a : Int) < ((b.length : Int) : Int) := ofD
   obtain ⟨n, Y, y, z, aa, ak, A⟩ := yM c.out (by omega)
   (first | cases y | (injection y with ea_ en_ ec_; (first | subst ea_ | (injection ea_ with ea_; subst ea_)); subst ec_; clear en_))
   have ab := mA z
   have al := mA A
   clear z aa A
   obtain ⟨ad, ae⟩ := yF 0 c.out (a : Int) u x
   replace u := eq_true u
   replace x := eq_true x
   have o := yG c.out (a : Int) ((rd l0 a) % 256)
   go_wp2_with (first | ((with_reducible refine Zbl (t := 5) (p := 20) rfl ?_); refine Zdk (t := 5) (p := 20) (v := ?vo_w12) (w1 := (wr.setCell ⟨n, (a : Int).toNat, none⟩ (.int .u8 ((rd l0 a) % 256)))) ?hg ?ho ?hn ?hr ?_; (case ho => rfl); (case hg => rfl); (case hn => rfl); (case hr => first | (go_simp; done) | (go_simp; rfl)); intro B hw; have hg : wr.grownBy B (some n) := (by rw [hw]; exact o.2); have hp_ : Kd.R (Kd.int .u8) 5 B w.heap.size (fun _ => True) (.slice (some ⟨n, 0, none⟩) b.length Y) s := (by rw [hw, E.out]; exact o.1); clear o; replace c := mA (hp_); replace HB := mA ((by rw [hw]; exact Za7 (HB.out) ab.out : Below w.heap.size w B)); clear hg hw hp_))
   go_roundg k1
   case measure => have := J.out; omega
   case rel => exact ⟨(s), (wrap64 (a + 1)), (eW), H', ⟨by have := J.out; omega⟩, ⟨rP c.out⟩, ⟨bW⟩⟩
end Go.Proofs.Ytgindgodfcfgkaa.P
end M0
