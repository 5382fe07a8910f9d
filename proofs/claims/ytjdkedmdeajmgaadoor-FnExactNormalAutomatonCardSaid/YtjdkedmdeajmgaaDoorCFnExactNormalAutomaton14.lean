import Derived.Test.YtjdkedmdeajmgaaDoorCFnExactNormalAutomaton2
set_option maxHeartbeats 8000000
set_option maxRecDepth 100000
section M0
namespace Go.Proofs.YtjdkedmdeajmgaaDoor.P
open Go.RowKit Go.Proofs.YtjdkedmdeajmgaaDoor.Sh Go.Proofs.YtjdkedmdeajmgaaDoorW.PrintWords Go.Proofs.YtjdkedmdeajmgaaDoorW.PrintLast Go.Proofs.YtjdkedmdeajmgaaDoorW.PrintMore
open Kd
attribute [local go_sem] Zcf Zch Zcv Zcu Zb6 Zb7 Zcg Zce   -- for this text's walks alone
set_option linter.unusedVariables false
set_option linter.unusedSimpArgs false
def bits_Mul64.f (a0 : Int) (a1 : Int) : Option (Int × Int) := some (IntKind.u64.wrap ((IntKind.u64.wrap ((IntKind.u64.wrap ((a0 / 4294967296) * (a1 / 4294967296))) + ((IntKind.u64.wrap ((IntKind.u64.wrap ((a0 / 4294967296) * (Go.bits .and .u64 a1 4294967295))) + ((IntKind.u64.wrap ((Go.bits .and .u64 a0 4294967295) * (Go.bits .and .u64 a1 4294967295))) / 4294967296))) / 4294967296))) + ((IntKind.u64.wrap ((Go.bits .and .u64 (IntKind.u64.wrap ((IntKind.u64.wrap ((a0 / 4294967296) * (Go.bits .and .u64 a1 4294967295))) + ((IntKind.u64.wrap ((Go.bits .and .u64 a0 4294967295) * (Go.bits .and .u64 a1 4294967295))) / 4294967296))) 4294967295) + (IntKind.u64.wrap ((Go.bits .and .u64 a0 4294967295) * (a1 / 4294967296))))) / 4294967296)), IntKind.u64.wrap (a0 * a1))
theorem bits_Mul64.calls (a0 : Int) (a1 : Int) (r1 : Int) (r2 : Int) (w : World) (h : bits_Mul64.f a0 a1 = some (r1, r2)) :
  Calls Tryd.prog 171 #[.int .u64 a0, .int .u64 a1] w fun e w' => e = .returned (.tuple #[.int .u64 r1, .int .u64 r2]) ∧ Zaw w w' := by
 unfold bits_Mul64.f at h
 have H := h
 clear h
 simp only [Option.some.injEq, Prod.mk.injEq] at H
 obtain ⟨rfl, rfl⟩ := H
 go_enter Tryd.func171, Tryd.ntmps171
 go_wp2
 go_ret2
 exact ⟨eW, by repeat (first | exact Zaw.refl _ | apply Zaw.step)⟩
def bits_Mul.f (a0 : Int) (a1 : Int) : Option (Int × Int) := (bits_Mul64.f a0 a1).bind fun a => (some (a.1, a.2))
theorem bits_Mul.calls (a0 : Int) (a1 : Int) (r1 : Int) (r2 : Int) (w : World) (h : bits_Mul.f a0 a1 = some (r1, r2)) :
  Calls Tryd.prog 167 #[.int .u64 a0, .int .u64 a1] w fun e w' => e = .returned (.tuple #[.int .u64 r1, .int .u64 r2]) ∧ Zaw w w' := by
 unfold bits_Mul.f at h
 have H := h
 clear h
 obtain ⟨⟨a, b⟩, A3, H⟩ := bA H
 try dsimp only at H
 simp only [Option.some.injEq, Prod.mk.injEq] at H
 obtain ⟨rfl, rfl⟩ := H
 go_enter Tryd.func167, Tryd.ntmps167
 go_wp2_with (first | ((with_reducible refine Zax (f := 171) rfl ?_); refine Zbi (some 25) Tryd.func171 #[.int .u64 a0, .int .u64 a1] ?_; (with_reducible refine (bits_Mul64.calls a0 a1 a b _ A3.out).mono ?_); rintro e w' ⟨rfl, ⟨nd, rfl⟩⟩; refine ⟨_, rfl, ?_⟩))
 go_ret2
 exact ⟨eW, by repeat (first | exact Zaw.refl _ | apply Zaw.step)⟩
theorem rp_add (g j : Nat) : (⟨g, 0, none⟩ : Addr).add j = ⟨g, j, none⟩ := by unfold Addr.add; split <;> simp_all
theorem rp_copy {P : Program} {o : Oper} {a : Act} {Q : Exit → Act → World → Prop} {Kc : Act → World → Prop} {ops : Array Oper} {W : World} {base e : Nat} {ok : Nat → Prop} {t : TypeId} {s x : Operand} {g n cap off dLen dCap sLen sCap : Nat} (xs cs : List Int)
    (hw : Region.wanted o (yielded ops a.tmps) = true) (ho : o.op = .call { callee := .builtin .copy, args := #[s, x], argTypes := #[t, t] }) (ht : P.underlying t = some (.slice e)) (hinfo : (P.info? e).map (·.size) = some 1)
    (HO : Kd.R (Kd.int .i64) e W base ok (.slice (some ⟨g, 0, none⟩) n cap) xs) (hs : a.eval s = .slice (some ⟨g, off, none⟩) dLen dCap) (hx : a.eval x = .slice (some ⟨g, 0, none⟩) sLen sCap)
    (hl : cs.length = Nat.min sLen dLen) (hcs : ∀ j, j < cs.length → cs[j]? = xs[j]?) (hfit : off + cs.length ≤ xs.length)
    (h : ∀ w1, Kd.R (Kd.int .i64) e w1 base ok (.slice (some ⟨g, 0, none⟩) n cap) (xs.take off ++ cs ++ xs.drop (off + cs.length)) → W.grownBy w1 (some g) → Kc (a.put o.dst (.int .i64 (cs.length : Int))) w1) :
    if Region.wanted o (yielded ops a.tmps) = true then Oper.wp P o a W Kc Q else Kc (a.put o.dst undef) W := by
  obtain ⟨h0, inner, ⟨hil, hc⟩, hr⟩ := HO
  rcases hc with ⟨hv, _⟩ | ⟨g', cap', cur, hv, hg, hh, h1, h2, h3, h4⟩
  · cases hv
  injection hv with e1 e2 e3
  injection e1 with e1
  injection e1 with e1 _ _
  subst e1 e2 e3
  have b : cur.size = cap := by simpa [Kd.int, Kd.scalar] using h3
  have hin : cur.toList.take xs.length = xs.map (Value.int .i64) := by
    have h5 : cur.toList.take xs.length = inner := by simpa [Kd.int, Kd.scalar] using h4
    rw [h5]
    have c : inner.length = xs.length := by have := hr.1; simpa [Kd.int, Kd.scalar] using this
    apply List.ext_getElem?
    intro j
    by_cases hj : j < xs.length
    · have h3 : (inner.drop (j * 1)).take 1 = [Value.int .i64 xs[j]] := hr.2 j xs[j] (List.getElem?_eq_getElem hj)
      have h4 : ((inner.drop (j * 1)).take 1)[0]? = ([Value.int .i64 xs[j]] : List Value)[0]? := by rw [h3]
      rw [List.getElem?_take_of_lt (by omega), List.getElem?_drop] at h4
      rw [List.getElem?_map, List.getElem?_eq_getElem hj]
      simpa using h4
    · rw [List.getElem?_eq_none (by omega), List.getElem?_eq_none (by rw [List.length_map]; omega)]
  have hcell : ∀ j, j < xs.length → cur[j]? = (xs[j]?).map (Value.int .i64) := by
    intro j hj
    have h5 : (cur.toList.take xs.length)[j]? = (xs.map (Value.int .i64))[j]? := by rw [hin]
    rw [List.getElem?_take_of_lt hj, List.getElem?_map] at h5
    simpa using h5
  have hrun := run_copy_cells (P := P) W t t o.type e g off dLen dCap ⟨g, 0, none⟩ sLen sCap (cs.map (Value.int .i64)) ht hinfo (by rw [List.length_map]; exact hl)
    (fun j v hj => by
      rw [List.getElem?_map] at hj
      obtain ⟨y, hy, rfl⟩ := Option.map_eq_some_iff.1 hj
      have hjl : j < cs.length := (List.getElem?_eq_some_iff.1 hy).1
      have hadd := rp_add g j
      rw [hadd, cell_of_row W g j cur e (0, 0) hh, hcell j (by omega), ← hcs j hjl, hy]
      rfl)
    (fun j hj => by rw [List.length_map] at hj; rw [cell_of_row W g _ cur e (0, 0) hh]; exact (by rw [Array.getElem?_eq_getElem (show off + j < cur.size by omega)]; rfl)) (fun j _ => Zae hh _)
    (by intro u hu; simp only [List.mem_map] at hu; obtain ⟨q, _, rfl⟩ := hu; rfl)
  obtain ⟨cur', h6, h7, h8⟩ := setCells_row (cs.map (Value.int .i64)) off W cur hh (by rw [List.length_map]; omega)
  obtain ⟨s1, s2, s3, s4⟩ := setCells_same g (cs.map (Value.int .i64)) off W
  rw [if_pos hw]
  unfold Oper.wp execOp
  simp only [ho, resolve, invoke, builtin, Sem.run_bind, Sem.run_pure, Result.andThen_ok, List.map_toArray, List.map_cons, List.map_nil, hs, hx, hrun]
  have hnl : (xs.take off ++ cs ++ xs.drop (off + cs.length)).length = xs.length := by
    simp only [List.length_append, List.length_take, List.length_drop]
    omega
  have hmap : cur'.toList.take xs.length = (xs.take off ++ cs ++ xs.drop (off + cs.length)).map (Value.int .i64) := by
    rw [h8, List.length_map]
    simp only [List.map_append, List.map_take, List.map_drop, ← hin]
    rw [List.take_append, List.take_append]
    simp only [List.length_append, List.length_take, List.length_map, Array.length_toList, List.take_take, List.drop_take]
    rw [Nat.min_eq_left (show off ≤ cur.size by omega), Nat.min_eq_left (show off ≤ xs.length by omega)]
    rw [List.take_of_length_le (l := List.map (Value.int .i64) cs) (by rw [List.length_map]; omega)]
    rw [show xs.length - (off + cs.length) = xs.length - (off + cs.length) from rfl, List.take_drop, List.drop_take]
    congr 2
    congr 1
    omega
  have hfin := fun p1 p2 p3 => h (W.setCells g off (cs.map (Value.int .i64))) ⟨h0, (xs.take off ++ cs ++ xs.drop (off + cs.length)).map (Value.int .i64), ⟨p1, .inr ⟨g, cap, cur', by rw [hnl], hg, h6, by rw [hnl]; omega, h2, by simpa [Kd.int, Kd.scalar, h7] using b, p2⟩⟩, p3⟩ ⟨s1, s2, s3, by rw [s4]; exact Nat.le_refl _, fun k _ hk => setCells_far _ _ k (fun he => hk (by rw [he]))⟩
  rw [List.length_map]
  refine hfin ?_ ?_ ?_
  · simp [Kd.int, Kd.scalar]
  · simp only [Kd.int, Kd.scalar, Nat.mul_one]
    rw [hnl]
    exact hmap
  · refine ⟨by simp [Kd.int, Kd.scalar], fun j p hj => ?_⟩
    have hj' : j < (xs.take off ++ cs ++ xs.drop (off + cs.length)).length := (List.getElem?_eq_some_iff.1 hj).1
    have hp : (xs.take off ++ cs ++ xs.drop (off + cs.length))[j] = p := (List.getElem?_eq_some_iff.1 hj).2
    show (((xs.take off ++ cs ++ xs.drop (off + cs.length)).map (Value.int .i64)).drop (j * 1)).take 1 = [Value.int .i64 p]
    rw [Nat.mul_one, List.drop_eq_getElem_cons (by rw [List.length_map]; exact hj'), List.take_succ_cons, List.take_zero, List.getElem_map, hp]
def Zc5 (x : Int) (c n : Nat) : List Int := List.replicate n x ++ List.replicate (c - n) 0
theorem rp_len {x : Int} {c n : Nat} (h : n ≤ c) : (Zc5 x c n).length = c := by
  unfold Zc5
  rw [List.length_append, List.length_replicate, List.length_replicate]
  omega
theorem rp_first (x : Int) (c : Nat) : [x].take (min 1 (List.replicate c (0 : Int)).length) ++ (List.replicate c (0 : Int)).drop (min 1 (List.replicate c (0 : Int)).length) = Zc5 x c (min 1 c) := by
  unfold Zc5
  rw [List.length_replicate, List.drop_replicate]
  cases c with
  | zero => rfl
  | succ c => simp
theorem rp_next (x : Int) (c n m : Nat) (hn : n + m ≤ c) (hm : m ≤ n) : (Zc5 x c n).take n ++ (Zc5 x c n).take m ++ (Zc5 x c n).drop (n + ((Zc5 x c n).take m).length) = Zc5 x c (n + m) := by
  have h1 : (Zc5 x c n).take n = List.replicate n x := by
    unfold Zc5
    rw [List.take_left' (by simp)]
  have h2 : (Zc5 x c n).take m = List.replicate m x := by
    unfold Zc5
    rw [List.take_append_of_le_length (by simpa using hm), List.take_replicate, Nat.min_eq_left hm]
  rw [h1, h2, List.length_replicate]
  unfold Zc5
  rw [List.drop_append, List.drop_eq_nil_of_le (by simp), List.nil_append, List.length_replicate, List.drop_replicate, List.replicate_append_replicate, show c - n - (n + m - n) = c - (n + m) by omega]
theorem rp_cutA {g c c7 n : Nat} (hn : n < c) (hcc : c ≤ c7) : ∀ W, (Instr.slice 22 (.slice (some ⟨g, 0, none⟩) c c7) (some (.int .i64 (n : Int))) none none).run Tryd.prog W = .ok (.slice (some ⟨g, n, none⟩) (c - n) (c7 - n)) W := by
  obtain ⟨i0, a, _, hsz, _⟩ := info_parts Zci
  intro W
  rw [cut_from (P := Tryd.prog) 22 2 .i64 Tryd.underlying22 a 1 hsz (some ⟨g, 0, none⟩) c c7 (n : Int) (by omega) (by omega) W, if_neg (by omega), Int.toNat_natCast, Nat.mul_one]
  simp only [Option.map_some, rp_add]
theorem rp_cutB {g c c7 n : Nat} (hn : n < c) (hcc : c ≤ c7) : ∀ W, (Instr.slice 22 (.slice (some ⟨g, 0, none⟩) c c7) none (some (.int .i64 (n : Int))) none).run Tryd.prog W = .ok (.slice (some ⟨g, 0, none⟩) n c7) W := by
  obtain ⟨i0, a, _, hsz, _⟩ := info_parts Zci
  intro W
  rw [cut_to (P := Tryd.prog) 22 2 .i64 Tryd.underlying22 a (some ⟨g, 0, none⟩) c c7 (n : Int) (by omega) (by omega) hcc W, Int.toNat_natCast]
def Zb8.f (l0 : List Int) (a1 : Int) : Option (List Int) := if l0.length = 1 ∧ 0 ≤ a1 ∧ a1 ≤ 8 then some (List.replicate a1.toNat (rd l0 0)) else none
theorem rp_mul : ∀ c : Fin 9, bits_Mul.f 1 (c.val : Int) = some (0, (c.val : Int)) := by decide +kernel
theorem Zb8.calls (A0 : Option Addr) (c0 : Nat) (l0 : List Int) (a1 : Int) (r : List Int) (w : World) (k : Kd.C (Kd.int .i64) w A0 l0.length l0) (s : l0.length ≤ c0) (h : Zb8.f l0 a1 = some r) :
    Calls Tryd.prog 154 #[.slice A0 l0.length c0, .int .i64 a1] w fun e w' => ∃ m : Value, e = .returned (m) ∧ Kd.R (Kd.int .i64) 2 w' w.heap.size (fun _ => True) m r ∧ Below w.heap.size w w' := by
  unfold Zb8.f at h
  by_cases hc : l0.length = 1 ∧ 0 ≤ a1 ∧ a1 ≤ 8; rotate_left
  · rw [if_neg hc] at h
    cases h
  rw [if_pos hc] at h
  obtain rfl := Option.some.inj h
  clear h
  obtain ⟨hl, h0, h8⟩ := hc
  obtain ⟨x, rfl⟩ : ∃ x, l0 = [x] := List.length_eq_one_iff.1 hl
  obtain ⟨c, rfl⟩ : ∃ c : Nat, a1 = c := ⟨a1.toNat, by omega⟩
  have o : c ≤ 8 := by omega
  obtain ⟨ad, rfl⟩ : ∃ ad, A0 = some ad := by
    obtain ⟨ad, e, _⟩ := k.2.2 (by simp)
    exact ⟨ad, e⟩
  have hmul : bits_Mul.f 1 (c : Int) = some (0, (c : Int)) := rp_mul ⟨c, by omega⟩
  have HC := mA k
  have HM := mA hmul
  have H8 := mA o
  have HB := mA (Below.refl w.heap.size w)
  have t : IntKind.u64.wrap (c : Int) = (c : Int) := by show (c : Int) % 18446744073709551616 = c; omega
  have u : IntKind.i64.wrap (c : Int) = (c : Int) := by rw [IntKind.wrap_i64]; omega
  have v : decide ((c : Int) > 9223372036854775807) = false := decide_eq_false (by omega)
  have hng : decide ((c : Int) < 0) = false := decide_eq_false (by omega)
  clear k hmul o h0 h8 hl s
  rw [show rd [x] 0 = x from rfl, Int.toNat_natCast]
  simp only [List.length_cons, List.length_nil, Nat.zero_add]
  go_enter Tryd.func154, Tryd.ntmps154
  go_wp2_with (first
    | ((with_reducible refine Zax (f := 167) rfl ?_); refine Zbi (some 18) Tryd.func167 #[.int .u64 1, .int .u64 (c : Int)] ?_; (with_reducible refine (bits_Mul.calls 1 (c : Int) 0 (c : Int) _ HM.out).mono ?_); rintro e w' ⟨rfl, ⟨nd, rfl⟩⟩; refine ⟨_, rfl, ?_⟩)
    | ((with_reducible refine Zat (N := 30) rfl ?_); refine xB (Kd.int .i64) _ 2 rfl (N := 30) rfl 22 _ _ rfl (c : Int) rfl rfl Tryd.underlying22 (.int .i64 0) 8 Zci rfl (by decide) (by omega) 0 (ok := fun _ => True) (okp := fun _ => True) rfl (fun _ hk => hk) trivial (by omega) (by have := H8.out; omega) (Below.refl _ _) (Nat.le_refl _) ?_; intro p B ho hb hg_ hnew_; clear hg_ hnew_; rw [Int.toNat_natCast] at ho; have HO := mA (zS ho (Zaj (bW))); have l := mA (Zaf (bW) hb); have q := mA (zQ HC.out l.out); clear HB ho hb)
    | ((with_reducible refine Za6 (b := .copy) (xs := #[.tmp 31, .tmp 32]) rfl ?_); refine Kd.R_copy (enc := Value.int .i64) (h1 := fun _ => rfl) 0 (w0 := w) w.heap.size rfl (.tmp 31) (.tmp 32) 22 22 2 rfl Tryd.underlying22 (by rfl) p (List.replicate c 0) [x] (some ad) 1 c0 (fun _ => True) rfl rfl HO.out q.out l.out (Zaj (bW)) ?_; intro y ho hb hg_; clear hg_; rw [rp_first] at ho; have a := mA (show Kd.R (Kd.int .i64) 2 y w.heap.size (fun _ => True) p (Zc5 x c (min 1 c)) from ho); have d := mA hb; obtain ⟨A7, c7, e7⟩ := zP a.out; rw [rp_len (Nat.min_le_right _ _)] at e7; subst e7; rw [List.length_replicate]; clear HO l q ho hb))
  go_loopg [8] 16 (fun kq v8 w' => ∃ n : Nat, v8 = .int .i64 (n : Int) ∧ Zac (n ≤ c ∧ (n = 0 → c = 0) ∧ c - n ≤ kq ∧ kq ≤ 16) ∧ Zac (Kd.R (Kd.int .i64) 2 w' w.heap.size (fun _ => True) (.slice A7 c c7) (Zc5 x c n)) ∧ Zac (Below w.heap.size w w'))
  case atStart => exact ⟨min 1 c, (eW), ⟨by have := H8.out; omega⟩, a, d⟩
  case round =>
    clear a d
    obtain ⟨n, rfl, HN, a, d⟩ := hrel
    by_cases hlt : n < c; rotate_left
    · have hltb := dF hlt
      go_wp2
      go_ret
      have hn : n = c := by have := HN.out; omega
      subst hn
      refine ⟨_, rfl, ?_, d.out⟩
      have := a.out
      unfold Zc5 at this
      rw [Nat.sub_self, List.replicate_zero, List.append_nil] at this
      exact this
    have hltb := dT hlt
    cases gk with
    | zero => exact absurd HN.out.2.2.1 (by omega)
    | succ k1 =>
      have hnc := HN.out.1
      obtain ⟨g, hg, hA, hcc⟩ : ∃ g, w.heap.size ≤ g ∧ A7 = some ⟨g, 0, none⟩ ∧ c ≤ c7 := by
        obtain ⟨g, cap, e7, hg, _, _⟩ := yK a.out (by rw [rp_len hnc]; omega)
        injection e7 with e7 _ e8
        exact ⟨g, hg, e7, by have := (zJ a.out).2.1; omega⟩
      subst hA
      have HLT := mA hlt
      have HNC := mA hnc
      have HG := mA hg
      have HCC := mA hcc
      clear hlt hnc hg hcc t u v hng
      go_wp2
      have hlt := HLT.out
      have hnc := HNC.out
      have hg := HG.out
      have hcutA := rp_cutA (g := g) HLT.out HCC.out
      have hcutB := rp_cutB (g := g) HLT.out HCC.out
      refine Zck (n := 10) (S := fun _ => True) (ds := []) #[false, false, false, false, false, false, false, false, false, false] (by kernel_rfl) rfl rfl trivial (fun hHeld => ?_)
      refine Zas (i := 0) (N := some 38) (by kernel_rfl) ?_
      refine Zas (i := 1) (N := some 39) (by kernel_rfl) ?_
      refine Zas (i := 2) (N := some 40) (by kernel_rfl) ?_
      refine Zas (i := 3) (N := some 41) (by kernel_rfl) ?_
      refine Zas (i := 4) (N := some 42) (by kernel_rfl) ?_
      refine Zas (i := 5) (N := some 43) (by kernel_rfl) ?_
      refine Zas (i := 6) (N := some 44) (by kernel_rfl) ?_
      refine one_ (i := 7) (N := some 45) #[true, true, true, true, true, true, true, true, false, false] rfl rfl (by kernel_rfl) (by decide) (fun K hK => ?_)
      refine rp_copy (base := w.heap.size) (off := n) (Zc5 x c n) ((Zc5 x c n).take (min n (c - n))) (by rfl) (by rfl) Tryd.underlying22 (by rfl) (zA a.out) (by rfl) (by rfl) ?_ ?_ ?_ ?_
      · rw [List.length_take, rp_len hnc]; show min (min n (c - n)) c = min n (c - n); omega
      · intro j hj
        rw [List.length_take] at hj
        rw [List.getElem?_take_of_lt (by omega)]
      · rw [List.length_take, rp_len hnc]; omega
      intro w1 ho hgr
      rw [rp_next x c n (min n (c - n)) (by omega) (by omega)] at ho
      rw [show ((Zc5 x c n).take (min n (c - n))).length = min n (c - n) by rw [List.length_take, rp_len hnc]; omega]
      have z := mA ho
      have A := mA ((Za1 d.out).grown hgr (Za1 d.out).size (fun k_ e_ => by injection e_ with e_; rw [← e_]; exact hg))
      clear ho hgr
      refine hK.out _ _ trivial (fun hHeld => ?_)
      clear hK K
      refine putS 45 ?_
      have hadd : IntKind.i64.wrap ((n : Int) + ((min n (c - n) : Nat) : Int)) = ((n + min n (c - n) : Nat) : Int) := by rw [IntKind.wrap_i64]; have := H8.out; omega
      clear hlt hnc hg
      refine Zas (i := 8) (N := some 46) (by kernel_rfl) ?_
      refine Zas (i := 9) (N := some 8) (by kernel_rfl) ?_
      refine done_ (by kernel_rfl) ?_
      try go_wp2
      go_roundg k1
      case measure => have := HN.out; omega
      case rel => exact ⟨n + min n (c - n), (eW), ⟨by have := HN.out; omega⟩, z, A⟩
def Zdo.f (a0 : Int) : Option (Int × Int × List Bool × (List (List Int))) := (Zb8.f (([(-1)] : List Int)) a0).bind fun a => (some (a0, 0, (([false] : List Bool)), (([a] : List (List Int)))))
theorem Zdo.calls (a0 : Int) (r1 : Int) (r2 : Int) (r3 : List Bool) (r4 : List (List Int)) (w : World) (h : Zdo.f a0 = some (r1, r2, r3, r4)) :
  Calls Tryd.prog 130 #[.int .i64 a0] w fun e w' => ∃ E G : Value, e = .returned (.agg #[.int .i64 r1, .int .i64 r2, E, G]) ∧ Kd.R Kd.bool 4 w' w.heap.size (fun _ => True) E r3 ∧ Kd.S (Kd.slice 2 (Kd.int .i64)) 22 w' w.heap.size (fun _ => True) G r4 ∧ Below w.heap.size w w' := by
 have af := Tryd.underlying77
 have HB := mA (Below.refl w.heap.size w)
 unfold Zdo.f at h
 have H := h
 clear h
 obtain ⟨j, k⟩ := nm ((([false] : List Bool)) : List Bool)
 rw [← k.out] at H
 obtain ⟨g, l⟩ := nm ((([(-1)] : List Int)) : List Int)
 rw [← l.out] at H
 obtain ⟨m, A2, H⟩ := bA H
 obtain ⟨y, n⟩ := nm ((([m] : List (List Int))) : List (List Int))
 rw [← n.out] at H
 simp only [Option.some.injEq, Prod.mk.injEq] at H
 obtain ⟨rfl, rfl, rfl, rfl⟩ := H
 go_enter Tryd.func130, Tryd.ntmps130
 go_wp2_with (first | ((with_reducible refine Zat (N := 2) rfl ?_); refine boxS (N := 2) (cs := #[.int .i64 0, .int .i64 0, .slice none 0 0, .slice none 0 0]) (t := 77) ?_; intro b hg w3 hbox hb; have a := mA (hbox); have ad := geW (w := w) hg; have ae := geW (w := w) hg; replace HB := mA (Zaf (bW) hb); clear hb hbox hg) | ((with_reducible refine Zat (N := 4) rfl ?_); refine yP Kd.bool _ 4 ?hg (N := 4) ?hd (xs := ([false] : List Bool)) (inner := [.bool false]) (ok := fun _ => True) (okp := fun _ => True) ?hr ?hp (fun _ hk => hk) trivial (Below.refl _ _) (Nat.le_refl _) (by simp) ?_; (case hd => rfl); (case hg => rfl); (case hr => first | (go_simp; done) | (go_simp; rfl)); (case hp => exact (Reps.one (show Kd.M Kd.bool _ _ _ false [.bool false] from rfl) (Reps.none _ _))); intro ag w4 s hb hg_ hnew_; clear hg_ hnew_; (first | rw [← k.out] at s | (simp only [Int.reduceToNat] at s; rw [← k.out] at s)); have d := mA (zS s (Zaj (bW))); replace a := mA (blkB a.out hb); replace HB := mA (Zaf (bW) hb); clear hb s) | ((with_reducible refine Zat (N := 5) rfl ?_); refine yP (Kd.int .i64) _ 2 ?hg (N := 5) ?hd (xs := ([(-1)] : List Int)) (inner := [.int .i64 (-1)]) (ok := fun _ => True) (okp := fun _ => True) ?hr ?hp (fun _ hk => hk) trivial (Below.refl _ _) (Nat.le_refl _) (by simp) ?_; (case hd => rfl); (case hg => rfl); (case hr => first | (go_simp; done) | (go_simp; rfl)); (case hp => exact (Reps.one (show Kd.M (Kd.int .i64) _ _ _ (-1) [.int .i64 (-1)] from rfl) (Reps.none _ _))); intro ah w6 u hb hg_ hnew_; clear hg_ hnew_; (first | rw [← l.out] at u | (simp only [Int.reduceToNat] at u; rw [← l.out] at u)); replace d := mA (zK (rP d.out) hb); have c := mA (zS u (Zaj (bW))); replace a := mA (blkB a.out hb); replace HB := mA (Zaf (bW) hb); clear hb u; obtain ⟨v, x, ac⟩ := zP c.out; subst ac) | ((with_reducible refine Zax (f := 154) rfl ?_); refine Zbi (some 7) Tryd.func154 #[.slice v g.length x, .int .i64 a0] ?_; (with_reducible refine (Zb8.calls _ _ g a0 m _ ?side1 ?side2 A2.out).mono ?_); (case side1 => exact cP ((zJ c.out).2.2)); (case side2 => exact (zJ c.out).2.1); rintro e w9 ⟨ai, rfl, D, hb⟩; refine ⟨_, rfl, ?_⟩; replace d := mA (zK (rP d.out) hb); have o := mA (zS (yC D (zI (rP c.out))) (Zaj (bW))); replace c := mA (zZ (rP c.out) (zU D) hb); replace a := mA (blkB a.out hb); replace HB := mA (Zaf (bW) hb); (try clear hb); (try clear hb2); (try clear hk); (try clear hi); (try clear D); obtain ⟨I, J, K⟩ := zP o.out; subst K) | ((with_reducible refine Zat (N := 8) rfl ?_); refine Kd.S_lit1 (Kd.slice 2 (Kd.int .i64)) w.heap.size 22 ?hg (N := 8) ?hd (xs := ([m] : List (List Int))) (inner := [.slice I m.length J]) (ok := (fun k_ => some k_ ≠ (.slice v g.length x : Value).ownBlock)) (okp := (fun k_ => some k_ ≠ (.slice v g.length x : Value).ownBlock)) ?hr ?hp (fun _ hk => hk) ((show ∀ k_, w9.heap.size ≤ k_ → (fun k_ => some k_ ≠ (.slice v g.length x : Value).ownBlock) k_ from fun k_ hk => zT (zI (rP c.out)) k_ hk) _ (Nat.le_refl _)) (Below.refl _ _) ((Zaj (bW))) (by simp) ?_; (case hd => rfl); (case hg => rfl); (case hr => first | (go_simp; done) | (go_simp; rfl)); (case hp => exact ⟨_, rfl, rfl, Kd.M_row (by (with_reducible repeat (first | apply zC | apply zD | apply zA)); exact (zB (ok' := (fun k_ => some k_ ≠ (.slice v g.length x : Value).ownBlock)) (o.out) (fun k_ hk => hk.2)))⟩); intro aj ak i hb hg_ hnew_; have hown_ := own_new hnew_; clear hg_ hnew_; (first | rw [← n.out] at i | (simp only [Int.reduceToNat] at i; rw [← n.out] at i)); replace d := mA (zK (rP d.out) hb); replace c := mA (zK (rP c.out) hb); have B := mA (i); replace a := mA (blkB a.out hb); replace HB := mA (Zaf (bW) hb); clear o hb i hown_; obtain ⟨z, A, L⟩ := yE B.out; subst L; obtain ⟨q, r, O⟩ := zP d.out; subst O; obtain ⟨P, T, U, W⟩ := Zbl a.out; obtain ⟨X, Y, aa, ab⟩ := frz4 a.out))
 refine bodyPost_ret (results_cell_row rfl _ _ b 77 #[.int .i64 a0, .int .i64 0, .slice q j.length r, .slice z y.length A] (0, 0) _ rfl (by (with_reducible repeat (first | refine Zad ?_ _ | refine Zaa ?_ | refine Zab ?_ _)); refine Zau (cs := #[.int .i64 a0, .int .i64 0, .slice q j.length r, .slice none 0 0]) ?_ 3 _ rfl; (with_reducible repeat (first | refine Zad ?_ _ | refine Zaa ?_ | refine Zab ?_ _)); refine Zau (cs := #[.int .i64 a0, .int .i64 0, .slice none 0 0, .slice none 0 0]) ?_ 2 _ rfl; (with_reducible repeat (first | refine Zad ?_ _ | refine Zaa ?_ | refine Zab ?_ _)); refine Zau (cs := #[.int .i64 a0, .int .i64 0, .slice none 0 0, .slice none 0 0]) ?_ 1 _ rfl; (with_reducible repeat (first | refine Zad ?_ _ | refine Zaa ?_ | refine Zab ?_ _)); refine Zau (cs := #[.int .i64 0, .int .i64 0, .slice none 0 0, .slice none 0 0]) ?_ 0 _ rfl; exact bP a.out) Tryd.underlying77 rfl (by kernel_rfl)) rfl ?_
 exact ⟨_, _, eW, by (with_reducible repeat (first | apply zC | apply zD | apply zA)); exact zB (zF (p := ⟨b, 3, none⟩) (zF (p := ⟨b, 2, none⟩) (zF (p := ⟨b, 1, none⟩) (zF (p := ⟨b, 0, none⟩) (zV d.out a.out (by decide)) (fun _ hk => hk.2) (.int .i64 a0)) (fun _ hk => hk.2) (.int .i64 0)) (fun _ hk => hk.2) (.slice q j.length r)) (fun _ hk => hk.2) (.slice z y.length A)) (fun _ hk => trivial), by (with_reducible repeat (first | apply zL | apply zM | apply zH)); exact zG (zE (p := ⟨b, 3, none⟩) (zE (p := ⟨b, 2, none⟩) (zE (p := ⟨b, 1, none⟩) (zE (p := ⟨b, 0, none⟩) (zX B.out a.out (by decide)) (fun _ hk => hk.2) (.int .i64 a0)) (fun _ hk => hk.2) (.int .i64 0)) (fun _ hk => hk.2) (.slice q j.length r)) (fun _ hk => hk.2) (.slice z y.length A)) (fun _ hk => trivial), bW⟩
def Zb4.l0 : Nat → List Int → List Int → Int → Int → Option (ByteArray)
 | 0, _, _, _, _ => none
 | k + 1, x3, x9, b, a => if a < b then (if 0 ≤ a then (if a < (x9.length : Int) then (if a < (x3.length : Int) then (Zb4.l0 k (x3.set (a : Int).toNat ((rd x9 a) % 256)) x9 b (wrap64 (a + 1))) else (none)) else (none)) else (none)) else (some (strOfNums x3))
def Zb4.f (k : Nat) (l0 : List Int) : Option (ByteArray) := if 0 ≤ (l0.length : Int) then (if ((l0.length : Int) : Int).toNat ≤ 281474976710656 then (Zb4.l0 k (List.replicate ((l0.length : Int) : Int).toNat 0) l0 (l0.length : Int) 0) else (none)) else (none)
theorem Zb4.calls (k : Nat) (A0 : Option Addr) (c0 : Nat) (l0 : List Int) (r : ByteArray) (w : World) (D : Kd.C (Kd.int .i64) w A0 l0.length l0) (E : l0.length ≤ c0) (h : Zb4.f k l0 = some r) :
  Calls Tryd.prog 72 #[.slice A0 l0.length c0] w fun e w' => e = .returned (.string r) ∧ Below w.heap.size w w' := by
 have aa := mA D
 have ak := mA E
 clear D E
 have HB := mA (Below.refl w.heap.size w)
 unfold Zb4.f at h
 have H := h
 clear h
 by_cases c2 : 0 ≤ (l0.length : Int); rotate_left
 ·rw [if_neg c2] at H
  exact absurd H (by simp)
 rw [if_pos c2] at H
 have I := eq_true c2
 have J := dT c2
 clear c2
 by_cases c3 : ((l0.length : Int) : Int).toNat ≤ 281474976710656; rotate_left
 ·rw [if_neg c3] at H
  exact absurd H (by simp)
 rw [if_pos c3] at H
 have K := eq_true c3
 have L := dT c3
 clear c3
 obtain ⟨M, g⟩ := nm ((List.replicate ((l0.length : Int) : Int).toNat 0) : List Int)
 rw [← g.out] at H
 have H' := mA H
 clear H
 go_enter Tryd.func72, Tryd.ntmps72
 go_wp2_with (first | ((with_reducible refine Zat (N := 8) rfl ?_); refine xB (Kd.int .u8) _ 5 rfl (N := 8) rfl 95 _ _ rfl (l0.length : Int) rfl rfl Tryd.underlying95 (.int .u8 0) 1 info5 rfl (by decide) (by omega) 0 (ok := fun _ => True) (okp := fun _ => True) rfl (fun _ hk => hk) trivial (ofD) (Nat.le_trans (Nat.mul_le_mul_right _ (ofD : (l0.length : Int).toNat ≤ 281474976710656)) (by omega)) (Below.refl _ _) (Nat.le_refl _) ?_; intro O w4 i hb hg_ hnew_; clear hg_ hnew_; (first | rw [← g.out] at i | (simp only [Int.reduceToNat] at i; rw [← g.out] at i)); have B := mA (zS i (Zaj (bW))); replace HB := mA (Zaf (bW) hb); clear hb i))
 go_loopg [11] k (fun kq v11 w' => ∃ (b : List Int) (a : Int), v11 = .int .i64 a ∧ Zac (Zb4.l0 kq b l0 (l0.length : Int) a = some r) ∧ Zac (kq ≤ k) ∧ Zac (Kd.R (Kd.int .u8) 5 w' w.heap.size (fun _ => True) O b) ∧ Zac (Below w.heap.size w w'))
 case atStart => exact ⟨(M), (0), (eW), H', ⟨Nat.le_refl _⟩, ⟨rP B.out⟩, ⟨bW⟩⟩
 case round =>
  clear H' I J K L
  obtain ⟨b, a, rfl, HA, G, c, HB⟩ := hrel
  cases gk with
  | zero => exact absurd HA.out (by simp [Zb4.l0])
  | succ k1 =>
   have H := HA.out
   clear HA
   simp only [Zb4.l0] at H
   by_cases c6 : a < (l0.length : Int); rotate_left
   ·rw [if_neg c6] at H
    have T := dF c6
    clear c6
    obtain rfl := oI H
    have ad := own_string (P := Tryd.prog) Tryd.underlying95 Tryd.underlying5 Tryd.underlying9 (Kd.own_of_R c.out)
    go_wp2
    go_ret
    exact ⟨eW, bW⟩
   rw [if_pos c6] at H
   have T := dT c6
   clear c6
   obtain ⟨af, H⟩ := gE H
   obtain ⟨ag, H⟩ := gE H
   obtain ⟨ah, H⟩ := gE H
   obtain ⟨q, o⟩ := nm ((b.set (a : Int).toNat ((rd l0 a) % 256)) : List Int)
   rw [← o.out] at H
   have H' := mA H
   clear H
   have j : 0 ≤ (a : Int) := ofD
   have l : a < (l0.length : Int) := ofD
   obtain ⟨ae, U, d⟩ := zO aa.out a j l
   cases U
   replace d := (HB.out.cell (wB w d)).trans d
   replace j := eq_true j
   replace l := eq_true l
   have s : 0 ≤ (a : Int) := ofD
   have u : (a : Int) < ((b.length : Int) : Int) := ofD
   obtain ⟨m, W, x, y, X, ai, z⟩ := yK c.out (by omega)
   (first | cases x | (injection x with ea_ en_ ec_; (first | subst ea_ | (injection ea_ with ea_; subst ea_)); subst ec_; clear en_))
   have Y := mA y
   have aj := mA z
   clear y X z
   obtain ⟨ab, ac⟩ := yF 0 c.out (a : Int) s u
   replace s := eq_true s
   replace u := eq_true u
   have n := yI c.out (a : Int) ((rd l0 a) % 256)
   go_wp2_with (first | ((with_reducible refine Zbq (t := 5) (p := 20) rfl ?_); refine store_event (t := 5) (p := 20) (v := ?vo_w12) (w1 := (wr.setCell ⟨m, (a : Int).toNat, none⟩ (.int .u8 ((rd l0 a) % 256)))) ?hg ?ho ?hn ?hr ?_; (case ho => rfl); (case hg => rfl); (case hn => rfl); (case hr => first | (go_simp; done) | (go_simp; rfl)); intro A hw; have hg : wr.grownBy A (some m) := (by rw [hw]; exact n.2); have hp_ : Kd.R (Kd.int .u8) 5 A w.heap.size (fun _ => True) (.slice (some ⟨m, 0, none⟩) b.length W) q := (by rw [hw, o.out]; exact n.1); clear n; replace c := mA (hp_); replace HB := mA ((by rw [hw]; exact Za9 (HB.out) Y.out : Below w.heap.size w A)); clear hg hw hp_))
   go_roundg k1
   case measure => have := G.out; omega
   case rel => exact ⟨(q), (wrap64 (a + 1)), (eW), H', ⟨by have := G.out; omega⟩, ⟨rP c.out⟩, ⟨bW⟩⟩
end Go.Proofs.YtjdkedmdeajmgaaDoor.P
end M0
