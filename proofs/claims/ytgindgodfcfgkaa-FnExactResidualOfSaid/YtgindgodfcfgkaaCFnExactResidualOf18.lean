import Derived.Test.YtgindgodfcfgkaaCFnExactResidualOf17
section M0
namespace Go.Proofs.Ytgindgodfcfgkaa.U
open Go.RowKit Go.Proofs.Ytgindgodfcfgkaa.P Go.Proofs.YtgindgodfcfgkaaW.PrintWords Go.Proofs.YtgindgodfcfgkaaW.PrintLast
set_option linter.unusedVariables false
/-! The program's classes: a map from what tells a state apart to its class. -/
def two (q : Int) : List Int := [(q / 256) % 256, q % 256]
def Byte (l : List Int) : Prop := ∀ x ∈ l, 0 ≤ x ∧ x < 256
theorem two_byte (q : Int) : Byte (two q) := by
  intro x hx
  simp only [two, List.mem_cons, List.not_mem_nil, or_false] at hx
  rcases hx with rfl | rfl <;> omega
theorem two_inj {p q : Int} (hp : -1 ≤ p ∧ p < 65535) (hq : -1 ≤ q ∧ q < 65535) (h : two p = two q) : p = q := by
  simp only [two, List.cons.injEq, and_true] at h
  omega
theorem bytes_str {l : List Int} (h : Byte l) : bytesOf (strOfNums l) = l := by
  unfold bytesOf
  rw [strOfNums_data, List.map_map]
  conv => rhs; rw [← List.map_id l]
  refine List.map_congr_left fun x hx => ?_
  have := h x hx
  simp only [Function.comp_apply, id_eq, UInt8.toNat_ofNat']
  omega
theorem str_inj {l l' : List Int} (h : Byte l) (h' : Byte l') (e : strOfNums l = strOfNums l') : l = l' := by
  rw [← bytes_str h, ← bytes_str h', e]
def keyL (p : Int × List Int) : List Int := two p.1 ++ p.2.flatMap two
theorem flat_byte (l : List Int) : Byte (l.flatMap two) := by
  intro x hx
  obtain ⟨y, _, hy⟩ := List.mem_flatMap.1 hx
  exact two_byte y x hy
theorem keyL_byte (p : Int × List Int) : Byte (keyL p) := by
  intro x hx
  rcases List.mem_append.1 hx with hx | hx
  · exact two_byte _ x hx
  · exact flat_byte _ x hx
theorem flat_inj : ∀ {l l' : List Int}, l.length = l'.length → (∀ x ∈ l, -1 ≤ x ∧ x < 65535) → (∀ x ∈ l', -1 ≤ x ∧ x < 65535) → l.flatMap two = l'.flatMap two → l = l'
  | [], [], _, _, _, _ => rfl
  | [], b :: l', h, _, _, _ => by simp at h
  | a :: l, [], h, _, _, _ => by simp at h
  | a :: l, b :: l', h, h1, h2, e => by
    rw [List.flatMap_cons, List.flatMap_cons] at e
    obtain ⟨e1, e2⟩ := List.append_inj e rfl
    rw [two_inj (h1 a (by simp)) (h2 b (by simp)) e1, flat_inj (by simpa using h) (fun x hx => h1 x (by simp [hx])) (fun x hx => h2 x (by simp [hx])) e2]
theorem key_inj {p q : Int × List Int} (hl : p.2.length = q.2.length) (hp : -1 ≤ p.1 ∧ p.1 < 65535) (hq : -1 ≤ q.1 ∧ q.1 < 65535) (h1 : ∀ x ∈ p.2, -1 ≤ x ∧ x < 65535) (h2 : ∀ x ∈ q.2, -1 ≤ x ∧ x < 65535)
    (e : strOfNums (keyL p) = strOfNums (keyL q)) : p = q := by
  have e := str_inj (keyL_byte p) (keyL_byte q) e
  obtain ⟨e1, e2⟩ := List.append_inj e rfl
  obtain ⟨a, l⟩ := p
  obtain ⟨b, l'⟩ := q
  have q1 : a = b := two_inj hp hq e1
  have q2 : l = l' := flat_inj hl h1 h2 e2
  rw [q1, q2]
theorem wordKey_ev (l : List Int) (hl : l.length ≤ 1048576) : Ev (fun k => Zb0.f k l) (strOfNums (l.map (· % 256))) := by
  have key := Ev.up (fun k (s : List Int) i => Zb0.l0 k s l (l.length : Int) i) l.length (fun _ _ => strOfNums (l.map (· % 256))) (fun i s => s.length = l.length ∧ ∀ j, j < i → s[j]? = (l.map (· % 256))[j]?)
    (fun s ⟨h1, h2⟩ => by
      refine Ev.round ?_
      simp only [Zb0.l0]
      refine Ev.no (by omega) ?_
      have : s = l.map (· % 256) := List.ext_getElem? fun j => by
        by_cases hj : j < l.length
        · exact h2 j hj
        · rw [List.getElem?_eq_none (by omega), List.getElem?_eq_none (by simp; omega)]
      rw [this]
      exact Ev.now _)
    (fun i s hi ⟨h1, h2⟩ ih => by
      refine Ev.round ?_
      simp only [Zb0.l0]
      refine Ev.yes (by omega) (Ev.yes (by omega) (Ev.yes (by omega) (Ev.yes (by omega) ?_)))
      rw [w64s (by omega), Int.toNat_natCast, rd_lt hi]
      refine ih _ ⟨by simp [h1], fun j hj => ?_⟩
      by_cases e : j = i
      · subst e
        rw [List.getElem?_set_self (by omega)]
        simp [hi]
      · rw [List.getElem?_set_ne (by omega)]
        exact h2 j (by omega))
  unfold Zb0.f
  refine Ev.yes (by omega) (Ev.yes (by omega) ?_)
  have := key 0 (List.replicate l.length 0) (by omega) ⟨by simp, fun j hj => absurd hj (by omega)⟩
  simpa using this
theorem and255 {c : Int} (h0 : 0 ≤ c) (h1 : c < 65536) : bits .and .i64 c 255 = c % 256 := by
  obtain ⟨n, rfl⟩ := Int.eq_ofNat_of_zero_le h0
  rw [show (255 : Int) = ((255 : Nat) : Int) from rfl, band (by omega) (by omega)]
  have : n &&& 255 = n % 256 := Nat.and_two_pow_sub_one_eq_mod n 8
  omega
/-- The map as it stands when the states ks were the first of their classes. -/
def mapOf {K : Type} (key : Nat → K) (ks : List Nat) (m : Nat) : List (K × Int) := (ks.zipIdx m).map fun p => (key p.1, (p.2 : Int))
theorem mfind_mapOf {K : Type} [DecidableEq K] (key : Nat → K) (x : K) : ∀ (ks : List Nat) (m j : Nat), mfind (mapOf key ks m) x j = (ks.findIdx? (fun y => decide (key y = x))).map fun q => (j + q, ((m + q : Nat) : Int))
  | [], m, j => rfl
  | y :: ks, m, j => by
    have e : mapOf key (y :: ks) m = (key y, (m : Int)) :: mapOf key ks (m + 1) := rfl
    rw [e, mfind, List.findIdx?_cons]
    by_cases h : x = key y
    · rw [if_pos h, decide_eq_true h.symm]
      simp
    · rw [if_neg h, decide_eq_false (fun hh => h hh.symm), mfind_mapOf key x ks (m + 1) (j + 1)]
      simp only [Bool.false_eq_true, if_false, Option.map_map]
      refine congrArg (fun f => Option.map f _) (funext fun q => ?_)
      simp only [Function.comp_apply, Prod.mk.injEq]
      omega
theorem mapOf_length {K : Type} (key : Nat → K) (ks : List Nat) : (mapOf key ks 0).length = ks.length := by simp [mapOf]
theorem mapOf_snoc {K : Type} (key : Nat → K) (ks : List Nat) (i : Nat) : mapOf key (ks ++ [i]) 0 = mapOf key ks 0 ++ [(key i, (ks.length : Int))] := by
  simp [mapOf, List.zipIdx_append]
set_option maxHeartbeats 1000000 in
theorem classes_ev {L S : Int} {N : List (List Int)} {fin us : List Bool} {V : Nat → Prop} (hN : Zcm L N) (hn : N.length ≤ 65535) (hf : fin.length = N.length) (hL : 0 ≤ L) (o : L ≤ 1048576) (hu : us.length = N.length)
    (hus : ∀ s : Nat, s < N.length → (rdOf false us (s : Int) = true ↔ incl L.toNat (nxO N) (Za9 fin) V s)) (hV : VOK L.toNat N.length (nxO N) V) :
    EvP (fun k => Zal.f k L S fin N us) (fun r => r.length = N.length ∧ ClsOK L.toNat N.length (nxO N) (Za9 fin) V (fun s => rd r (s : Int))) := by
  have hrow : ∀ s : Nat, s < N.length → ((Zah N (s : Int)).length : Int) = L := fun s hs => (row_at hN (s := s) (by omega) (by omega)).1
  have hnx : ∀ s a : Nat, rd (Zah N (s : Int)) (a : Int) = nx N s a := fun s a => by unfold nx; rw [if_neg (by omega)]
  -- the passes
  have pass : ∀ (d : Nat) (c : List Int) (m : Int), c.length = N.length → RI L.toNat N.length (nxO N) (Za9 fin) V (fun s => rd c (s : Int)) → (∀ s, s < N.length → rd c (s : Int) < 65535) → Many N.length (incl L.toNat (nxO N) (Za9 fin) V) (fun s => rd c (s : Int)) m → -1 ≤ m → (N.length : Int) < m + d →
      EvP (fun k => Zal.l1 k c m L S fin N) (fun r => r.length = N.length ∧ ClsOK L.toNat N.length (nxO N) (Za9 fin) V (fun s => rd r (s : Int))) := by
    intro d
    induction d with
    | zero => intro c m h1 h2 h3 h4 h5 h6; exact absurd h6 (by (rcases h4 with h4 | ⟨k, rfl, C⟩); omega; (have := cnt_le C); omega)
    | succ d ihd =>
    intro c m hc hR hB hM hm hd
    have hlo : ∀ s, s < N.length → -1 ≤ rd c (s : Int) := fun s hs => by
      by_cases hi : incl L.toNat (nxO N) (Za9 fin) V s
      · have := hR.nn s hs hi; omega
      · have := hR.out s hs hi; omega
    have hcl : ∀ s a : Nat, s < N.length → a < L.toNat → -1 ≤ clsN c (nx N s a) ∧ clsN c (nx N s a) < 65535 := fun s a hs ha => by
      have hx := nx_in hN (s := s) (a := a) (by omega) (by omega) (by omega)
      unfold clsN
      split
      · rename_i h
        obtain ⟨t, et, ht⟩ := nat_of h hx.2
        rw [et]
        exact ⟨hlo t ht, hB t ht⟩
      · omega
    let sg : Nat → Int × List Int := sigO L.toNat (nxO N) (fun s => rd c (s : Int))
    have sg_eq : ∀ s, sg s = (rd c (s : Int), (List.range L.toNat).map fun (a : Nat) => clsN c (nx N s a)) := fun s => by
      show sigO _ _ _ _ = _
      unfold sigO
      simp only [Prod.mk.injEq, true_and]
      exact List.map_congr_left fun a _ => (clsN_eq s a).symm
    let key : Nat → ByteArray := fun s => strOfNums (keyL (sg s))
    have kinj : ∀ s t, s < N.length → t < N.length → key s = key t → sg s = sg t := by
      intro s t hs ht e
      have q : ∀ s, s < N.length → ∀ x ∈ (sg s).2, -1 ≤ x ∧ x < 65535 := fun s hs x hx => by
        rw [sg_eq] at hx
        obtain ⟨a, ha, rfl⟩ := List.mem_map.1 hx
        exact hcl s a hs (List.mem_range.1 ha)
      refine key_inj ?_ ?_ ?_ (q s hs) (q t ht) e
      · rw [sg_eq, sg_eq]; simp
      · rw [sg_eq]; exact ⟨hlo s hs, hB s hs⟩
      · rw [sg_eq]; exact ⟨hlo t ht, hB t ht⟩
    have states := EvP.up (fun k (st : List Nat × List Int) i => Zal.l2 k c m st.2 (c.length : Int) i L S fin N (mapOf key st.1 0)) (fun r => r.length = N.length ∧ ClsOK L.toNat N.length (nxO N) (Za9 fin) V (fun s => rd r (s : Int))) N.length
      (fun i st => st.2.length = N.length ∧ PassI (incl L.toNat (nxO N) (Za9 fin) V) sg i st.1 (fun s => rd st.2 (s : Int)))
      (fun st ⟨h1, I⟩ => by
        refine EvP.round ?_
        simp only [Zal.l2]
        refine EvP.no (by omega) ?_
        rw [mapOf_length]
        by_cases e : (st.1.length : Int) = m
        · exact EvP.yes e (EvP.ret ⟨h1, many_done hV hR hM I e⟩)
        · refine EvP.no e ?_
          obtain ⟨g1, g2, g3⟩ := many_more hM I e
          refine ihd st.2 _ h1 (hR.step hV I.ref) (fun s hs => ?_) g1 (by omega) (by omega)
          by_cases hi : incl L.toNat (nxO N) (Za9 fin) V s
          · have := I.cnt.lt s hs hi; omega
          · have := I.out s hs hi; omega)
      (fun i st hi ⟨h1, I⟩ ih => by
        refine EvP.round ?_
        simp only [Zal.l2]
        refine EvP.yes (by omega) (EvP.yes (by omega) (EvP.yes (by omega) ?_))
        have keep : ∀ (v : Int) (s : Nat), s < i → rd (st.2.set i v) (s : Int) = rd st.2 (s : Int) := fun v s hs => Zdh (by omega) v
        by_cases hneg : rd c (i : Int) < 0
        · refine EvP.yes hneg (EvP.yes (by omega) ?_)
          rw [w64s (by omega), Int.toNat_natCast]
          have hni : ¬ incl L.toNat (nxO N) (Za9 fin) V i := fun hh => by have := hR.nn i hi hh; omega
          exact ih (st.1, st.2.set i (-1)) ⟨by simp [h1], I.skip hni (Zb8 (by omega) _) (keep _)⟩
        · have hin : incl L.toNat (nxO N) (Za9 fin) V i := Classical.byContradiction fun hh => by have := hR.out i hi hh; omega
          have hb := hB i hi
          refine EvP.no hneg (EvP.bind (wordKey_ev _ (by simp)) (EvP.yes (by rw [strOfNums_size]; simp) ?_))
          have eb : bytesOf (strOfNums ([rd c (i : Int) / 256, bits .and .i64 (rd c (i : Int)) 255].map (· % 256))) = two (rd c (i : Int)) := by
            have e0 : [rd c (i : Int) / 256, bits .and .i64 (rd c (i : Int)) 255].map (· % 256) = two (rd c (i : Int)) := by
              rw [and255 (by omega) (by omega)]
              simp [two]
            rw [e0]
            exact bytes_str (two_byte _)
          rw [eb]
          have letters := EvP.up (fun k (x : List Int) a => Zal.l3 k c m st.2 (i : Int) x (c.length : Int) (i : Int) L a L S fin N (mapOf key st.1 0)) (fun r => r.length = N.length ∧ ClsOK L.toNat N.length (nxO N) (Za9 fin) V (fun s => rd r (s : Int))) L.toNat
            (fun a x => x = two (rd c (i : Int)) ++ ((List.range a).map fun (a : Nat) => clsN c (nx N i a)).flatMap two)
            (fun x hx => by
              refine EvP.round ?_
              simp only [Zal.l3]
              refine EvP.no (by omega) ?_
              have ek : strOfNums x = key i := by
                show _ = strOfNums (keyL (sg i))
                rw [hx, sg_eq]
                rfl
              rw [ek]
              have b := mfind_mapOf key (key i) st.1 0 0
              cases hfi : st.1.findIdx? (fun y => decide (key y = key i)) with
              | none =>
                rw [hfi] at b
                have hno : mhas (mapOf key st.1 0) (key i) = false := by unfold mhas; rw [b]; rfl
                refine EvP.no (by rw [hno]; simp) (EvP.yes (by omega) (EvP.yes (by omega) ?_))
                have hset : mset (mapOf key st.1 0) (key i) ((mapOf key st.1 0).length : Int) = mapOf key (st.1 ++ [i]) 0 := by
                  unfold mset
                  rw [b, mapOf_snoc, mapOf_length]
                  rfl
                rw [hset, mapOf_length, w64s (by omega), Int.toNat_natCast]
                refine ih (st.1 ++ [i], st.2.set i _) ⟨by simp [h1], I.new (fun y hy e => ?_) (Zb8 (by omega) _) (keep _) hin⟩
                rw [List.findIdx?_eq_none_iff] at hfi
                have := hfi y hy
                simp only [decide_eq_false_iff_not] at this
                exact this (by show strOfNums (keyL (sg y)) = strOfNums (keyL (sg i)); rw [e])
              | some q =>
                rw [hfi] at b
                have hyes : mhas (mapOf key st.1 0) (key i) = true := by unfold mhas; rw [b]; rfl
                refine EvP.yes hyes (EvP.yes (by omega) (EvP.yes (by omega) ?_))
                have hget : mget 0 (mapOf key st.1 0) (key i) = (q : Int) := by unfold mget; rw [b]; simp
                rw [hget, w64s (by omega), Int.toNat_natCast]
                rw [List.findIdx?_eq_some_iff_getElem] at hfi
                obtain ⟨hq, hk, _⟩ := hfi
                have hk := of_decide_eq_true hk
                have hy := (I.first _ (List.getElem_mem hq)).1
                exact ih (st.1, st.2.set i q) ⟨by simp [h1], I.known (List.getElem?_eq_getElem hq) (kinj _ _ (by omega) hi hk) (Zb8 (by omega) _) (keep _) hin⟩)
            (fun a x ha hx iha => by
              have hr := hrow i hi
              have hxl : x.length ≤ 2 + 2 * a := by
                rw [hx]
                have : ∀ l : List Int, (l.flatMap two).length = 2 * l.length := fun l => by
                  induction l with
                  | nil => rfl
                  | cons y l ihl => rw [List.flatMap_cons, List.length_append, ihl, List.length_cons]; simp [two]; omega
                rw [List.length_append, this, List.length_map, List.length_range]
                simp [two]
              refine EvP.round ?_
              simp only [Zal.l3]
              refine EvP.yes (by omega) (EvP.yes (by omega) (EvP.yes (by omega) (EvP.yes (by omega) (EvP.yes (by omega) ?_))))
              rw [hnx, w64s (by omega)]
              have p := nx_in hN (s := i) (a := a) (by omega) (by omega) (by omega)
              have next : ∀ y, y = two (clsN c (nx N i a)) → x ++ y = two (rd c (i : Int)) ++ ((List.range (a + 1)).map fun (a : Nat) => clsN c (nx N i a)).flatMap two := fun y hy => by
                rw [hy, hx, List.range_succ, List.map_append, List.flatMap_append, List.append_assoc]
                simp
              by_cases h4 : nx N i a ≥ 0
              · refine EvP.yes h4 (EvP.yes h4 (EvP.yes (by omega) (EvP.here rfl (EvP.yes (by simp; omega) ?_))))
                refine iha _ (next _ ?_)
                unfold clsN
                rw [if_pos h4]
                rfl
              · refine EvP.no h4 (EvP.here rfl (EvP.yes (by simp; omega) ?_))
                refine iha _ (next _ ?_)
                unfold clsN
                rw [if_neg h4]
                rfl)
          have := letters 0 (two (rd c (i : Int))) (by omega) (by simp)
          simpa using this)
    refine EvP.round ?_
    simp only [Zal.l1]
    refine EvP.yes (by omega) (EvP.yes (by omega) ?_)
    have := states 0 ([], List.replicate c.length 0) (by omega) ⟨by simp [hc], PassI.start⟩
    simpa [mapOf] using this
  -- the first classes
  have first := EvP.up (fun k (c : List Int) i => Zal.l0 k us c (N.length : Int) i L S fin N) (fun r => r.length = N.length ∧ ClsOK L.toNat N.length (nxO N) (Za9 fin) V (fun s => rd r (s : Int))) N.length
    (fun i c => c.length = N.length ∧ (∀ s, s < i → ¬ incl L.toNat (nxO N) (Za9 fin) V s → rd c (s : Int) = -1) ∧ (∀ s, s < i → incl L.toNat (nxO N) (Za9 fin) V s → rd c (s : Int) = if Za9 fin s then 1 else 0) ∧ ∀ s, i ≤ s → rd c (s : Int) = 0)
    (fun c ⟨h1, h2, h3, _⟩ => by
      refine EvP.round ?_
      simp only [Zal.l0]
      refine EvP.no (by omega) ?_
      refine pass (N.length + 1) c 0 h1 (ri_first h2 h3) (fun s hs => ?_) (.inl (by omega)) (by omega) (by omega)
      by_cases hi : incl L.toNat (nxO N) (Za9 fin) V s
      · rw [h3 s hs hi]; split <;> omega
      · rw [h2 s hs hi]; omega)
    (fun i c hi ⟨h1, h2, h3, h4⟩ ih => by
      refine EvP.round ?_
      simp only [Zal.l0]
      refine EvP.yes (by omega) (EvP.yes (by omega) (EvP.yes (by omega) ?_))
      rw [w64s (by omega), Int.toNat_natCast]
      have g : ∀ v : Int, (¬ incl L.toNat (nxO N) (Za9 fin) V i → v = -1) → (incl L.toNat (nxO N) (Za9 fin) V i → v = if Za9 fin i then 1 else 0) → (c.set i v).length = N.length ∧ (∀ s, s < i + 1 → ¬ incl L.toNat (nxO N) (Za9 fin) V s → rd (c.set i v) (s : Int) = -1) ∧ (∀ s, s < i + 1 → incl L.toNat (nxO N) (Za9 fin) V s → rd (c.set i v) (s : Int) = if Za9 fin s then 1 else 0) ∧ ∀ s, i + 1 ≤ s → rd (c.set i v) (s : Int) = 0 := by
        intro v g1 g2
        refine ⟨by simp [h1], fun s hs hn => ?_, fun s hs hn => ?_, fun s hs => ?_⟩
        · by_cases e : s = i
          · subst e; rw [Zb8 (by omega)]; exact g1 hn
          · rw [Zdh (by omega)]; exact h2 s (by omega) hn
        · by_cases e : s = i
          · subst e; rw [Zb8 (by omega)]; exact g2 hn
          · rw [Zdh (by omega)]; exact h3 s (by omega) hn
        · rw [Zdh (by omega)]; exact h4 s (by omega)
      have n := hus i hi
      cases hui : rdOf false us (i : Int)
      · refine EvP.no (by simp) (EvP.yes (by omega) (ih _ (g (-1) (fun _ => rfl) (fun hh => ?_))))
        rw [n.2 hh] at hui; cases hui
      · refine EvP.yes rfl (EvP.yes (by omega) ?_)
        have hin := n.1 hui
        cases hg : rdOf false fin (i : Int)
        · refine EvP.no (by simp) (ih c ?_)
          have hz := h4 i (by omega)
          have hcs : c.set i 0 = c := by
            apply List.ext_getElem?
            intro j
            rw [List.getElem?_set]
            by_cases e : i = j
            · subst e
              rw [rd_lt (by omega : i < c.length)] at hz
              rw [if_pos rfl, if_pos (by omega), List.getElem?_eq_getElem (by omega), hz]
            · rw [if_neg e]
          have := g 0 (fun hh => absurd hin hh) (fun _ => by show (0 : Int) = if rdOf false fin (i : Int) then 1 else 0; rw [hg]; rfl)
          rw [hcs] at this
          exact this
        · refine EvP.yes rfl (EvP.yes (by omega) (ih _ (g 1 (fun hh => absurd hin hh) (fun _ => ?_))))
          show (1 : Int) = if rdOf false fin (i : Int) then 1 else 0
          rw [hg]; rfl)
  unfold Zal.f
  refine EvP.yes (by omega) (EvP.yes (by omega) (EvP.here rfl ?_))
  have := first 0 (List.replicate N.length 0) (by omega) ⟨by simp, fun s hs => absurd hs (by omega), fun s hs => absurd hs (by omega), fun s _ => by
    show (List.replicate N.length (0 : Int)).getD s 0 = 0
    rw [List.getD_eq_getElem?_getD, List.getElem?_replicate]
    split <;> rfl⟩
  simpa using this
end Go.Proofs.Ytgindgodfcfgkaa.U
end M0
section M1
namespace Go.Proofs.Ytgindgodfcfgkaa.U
open Go.RowKit Go.Proofs.Ytgindgodfcfgkaa.P Go.Proofs.YtgindgodfcfgkaaW.PrintWords Go.Proofs.YtgindgodfcfgkaaW.PrintLast Go.Proofs.YtgindgodfcfgkaaW.PrintMore
set_option linter.unusedVariables false
theorem get_false {l : List Bool} {i : Nat} (h : i < l.length) (hv : rdOf false l (i : Int) = false) : l[i] = false := by rw [← rdOf_lt (d := false) h]; exact hv
theorem useful_ev {L S : Int} {N : List (List Int)} (fin : List Bool) (hN : Zcm L N) (hn : N.length ≤ 1048576) (hf : fin.length = N.length) (hL : 0 ≤ L) (o : L ≤ 1048576) (hS : 0 ≤ S) (hSn : S < N.length) :
    EvP (fun k => Zai.f k L S fin N) (IsUse L S N fin) := by
  have hrow : ∀ s : Nat, s < N.length → ((Zah N (s : Int)).length : Int) = L := fun s hs => (row_at hN (s := s) (by omega) (by omega)).1
  have hnx : ∀ s a : Nat, rd (Zah N (s : Int)) (a : Int) = nx N s a := fun s a => by unfold nx; rw [if_neg (by omega)]
  -- the last loop
  have l : ∀ re le : List Bool, re.length = N.length → le.length = N.length → (∀ s : Int, 0 ≤ s → s < N.length → (rdOf false re s = true ↔ Rch L N S s) ∧ (rdOf false le s = true ↔ Led L N fin s)) →
      EvP (fun k => Zai.l3 k re le (re.length : Int) 0) (IsUse L S N fin) := by
    intro re le hr hl hfull
    have loop := EvP.up (fun k (st : List Bool) i => Zai.l3 k st le (re.length : Int) i) (IsUse L S N fin) re.length
      (fun i st => st.length = N.length ∧ ∀ s : Int, 0 ≤ s → s < N.length → (rdOf false st s = true ↔ if s < (i : Int) then Rch L N S s ∧ Led L N fin s else Rch L N S s))
      (fun st ⟨h1, h2⟩ => by
        refine EvP.round ?_
        simp only [Zai.l3]
        refine EvP.no (by omega) (EvP.ret ⟨h1, fun s h3 h4 => ?_⟩)
        have := h2 s h3 h4
        rwa [if_pos (by omega)] at this)
      (fun i st hi ⟨h1, h2⟩ ih => by
        refine EvP.round ?_
        simp only [Zai.l3]
        refine EvP.yes (by omega) (EvP.yes (by omega) (EvP.yes (by omega) ?_))
        rw [w64s (by omega), Int.toNat_natCast]
        have g := h2 i (by omega) (by omega)
        rw [if_neg (by omega)] at g
        have hle := (hfull i (by omega) (by omega)).2
        have nxt : ∀ b : Bool, (b = true ↔ Rch L N S i ∧ Led L N fin i) → ∀ s : Int, 0 ≤ s → s < N.length → (rdOf false (st.set i b) s = true ↔ if s < ((i + 1 : Nat) : Int) then Rch L N S s ∧ Led L N fin s else Rch L N S s) := by
          intro b hb s h3 h4
          rw [rdOf_set h3]
          by_cases e : s = (i : Int)
          · subst e
            rw [if_pos ⟨rfl, by omega⟩, if_pos (by omega)]
            exact hb
          · rw [if_neg (by omega)]
            have := h2 s h3 h4
            by_cases h5 : s < (i : Int)
            · rw [if_pos h5] at this; rw [if_pos (by omega)]; exact this
            · rw [if_neg h5] at this; rw [if_neg (by omega)]; exact this
        cases hv : rdOf false st (i : Int)
        · refine EvP.no (by simp) (ih _ ⟨by simp [h1], nxt false ⟨fun h => (by cases h), fun h => ?_⟩⟩)
          rw [g.2 h.1] at hv; cases hv
        · refine EvP.yes rfl (EvP.yes (by omega) (ih _ ⟨by simp [h1], nxt _ ?_⟩))
          rw [hle]
          exact ⟨fun h => ⟨g.1 hv, h⟩, fun h => h.2⟩)
    have := loop 0 re (by omega) ⟨hr, fun s h3 h4 => by rw [if_neg (by omega)]; exact (hfull s h3 h4).1⟩
    simpa using this
  have main : ∀ q (re le : List Bool), Zbs re + Zbs le ≤ q → UseI L S N fin re le → EvP (fun k => Zai.l0 k re le true L S fin N) (IsUse L S N fin) := by
    intro q
    induction q using Nat.strongRecOn with
    | _ q ihq =>
    intro c d hm I0
    refine EvP.round ?_
    simp only [Zai.l0]
    refine EvP.yes (by trivial) ?_
    have pass := EvP.up (fun k (st : List Bool × List Bool × Bool) s => Zai.l1 k st.1 st.2.1 st.2.2 N (N.length : Int) s L S fin N) (IsUse L S N fin) N.length
      (fun s st => UseI L S N fin st.1 st.2.1 ∧ (Zbs st.1 + Zbs st.2.1 ≤ Zbs c + Zbs d ∧ (st.2.2 = true → Zbs st.1 + Zbs st.2.1 < Zbs c + Zbs d)) ∧ (st.2.2 = false → ∀ t a : Int, 0 ≤ t → t < (s : Int) → 0 ≤ a → a < L → paidU N st.1 st.2.1 t a))
      (fun st ⟨h1, h2, h3⟩ => by
        refine EvP.round ?_
        simp only [Zai.l1]
        refine EvP.no (by omega) ?_
        cases hb : st.2.2
        · refine EvP.round ?_
          simp only [Zai.l0]
          refine EvP.no (by simp) ?_
          exact l st.1 st.2.1 h1.rlen h1.live.len (useful_full hN hS hSn h1 (fun t a h4 h5 h6 h7 => h3 hb t a h4 h5 h6 h7))
        · exact ihq _ (by have := h2.2 hb; omega) st.1 st.2.1 (Nat.le_refl _) h1)
      (fun s st hs ⟨h1, h2, h3⟩ ih => by
        refine EvP.round ?_
        simp only [Zai.l1]
        refine EvP.yes (by omega) (EvP.yes (by omega) (EvP.yes (by omega) ?_))
        have hr := hrow s hs
        rw [hr]
        have letters := EvP.up (fun k (st : List Bool × List Bool × Bool) a => Zai.l2 k st.1 st.2.1 st.2.2 (s : Int) N (N.length : Int) (s : Int) (Zah N (s : Int)) L a L S fin N) (IsUse L S N fin) L.toNat
          (fun b st => UseI L S N fin st.1 st.2.1 ∧ (Zbs st.1 + Zbs st.2.1 ≤ Zbs c + Zbs d ∧ (st.2.2 = true → Zbs st.1 + Zbs st.2.1 < Zbs c + Zbs d)) ∧ (st.2.2 = false → (∀ t a : Int, 0 ≤ t → t < (s : Int) → 0 ≤ a → a < L → paidU N st.1 st.2.1 t a) ∧ ∀ a : Int, 0 ≤ a → a < (b : Int) → paidU N st.1 st.2.1 s a))
          (fun st ⟨h1, h2, h3⟩ => by
            refine EvP.round ?_
            simp only [Zai.l2]
            refine EvP.no (by omega) ?_
            rw [w64s (by omega)]
            refine ih st ⟨h1, h2, fun hb t a h4 h5 h6 h7 => ?_⟩
            by_cases e : t = (s : Int)
            · subst e; exact (h3 hb).2 a h6 (by omega)
            · exact (h3 hb).1 t a h4 (by omega) h6 h7)
          (fun b st hb ⟨h1, h2, h3⟩ ihb => by
            have hl := h1.live.len
            have hrl := h1.rlen
            refine EvP.round ?_
            simp only [Zai.l2]
            refine EvP.yes (by omega) (EvP.yes (by omega) (EvP.yes (by omega) ?_))
            rw [hnx, w64s (by omega)]
            have hx := nx_in hN (s := s) (a := b) (by omega) (by omega) (by omega)
            by_cases h4 : nx N s b < 0
            · refine EvP.yes h4 (ihb st ⟨h1, h2, fun hc => ⟨(h3 hc).1, fun a h5 h6 => ?_⟩⟩)
              by_cases e : a = (b : Int)
              · subst e; intro h7; omega
              · exact (h3 hc).2 a h5 (by omega)
            · refine EvP.no h4 (EvP.yes (by omega) (EvP.yes (by omega) ?_))
              obtain ⟨t, et, ht⟩ := nat_of (by omega : 0 ≤ nx N s b) hx.2
              rw [et]
              -- the second half of the round, whatever the first half did
              have half : ∀ (re : List Bool) (ch : Bool), UseI L S N fin re st.2.1 → (Zbs re + Zbs st.2.1 ≤ Zbs c + Zbs d ∧ (ch = true → Zbs re + Zbs st.2.1 < Zbs c + Zbs d)) →
                  (ch = false → re = st.1 ∧ st.2.2 = false ∧ (rdOf false re (s : Int) = true → rdOf false re (t : Int) = true)) →
                  EvP (fun k => if (0 : Int) ≤ t then (if (t : Int) < (st.2.1.length : Int) then (if rdOf false st.2.1 (t : Int) = true then (if (0 : Int) ≤ s then (if (s : Int) < (st.2.1.length : Int) then (if rdOf false st.2.1 (s : Int) = true then Zai.l2 k re st.2.1 ch (s : Int) N (N.length : Int) (s : Int) (Zah N (s : Int)) L ((b + 1 : Nat) : Int) L S fin N else Zai.l2 k re (st.2.1.set ((s : Int)).toNat true) true (s : Int) N (N.length : Int) (s : Int) (Zah N (s : Int)) L ((b + 1 : Nat) : Int) L S fin N) else none) else none) else Zai.l2 k re st.2.1 ch (s : Int) N (N.length : Int) (s : Int) (Zah N (s : Int)) L ((b + 1 : Nat) : Int) L S fin N) else none) else none) (IsUse L S N fin) := by
                intro re ch g1 g2 g3
                refine EvP.yes (by omega) (EvP.yes (by omega) ?_)
                have keep : (rdOf false st.2.1 (t : Int) = true → rdOf false st.2.1 (s : Int) = true) → EvP (fun k => Zai.l2 k re st.2.1 ch (s : Int) N (N.length : Int) (s : Int) (Zah N (s : Int)) L ((b + 1 : Nat) : Int) L S fin N) (IsUse L S N fin) := by
                  intro hk
                  refine ihb (re, st.2.1, ch) ⟨g1, g2, fun hc => ?_⟩
                  obtain ⟨e1, e2, e3⟩ := g3 hc
                  subst e1
                  refine ⟨(h3 e2).1, fun a h5 h6 => ?_⟩
                  by_cases e : a = (b : Int)
                  · subst e; intro _; rw [et]; exact ⟨e3, hk⟩
                  · exact (h3 e2).2 a h5 (by omega)
                cases hw : rdOf false st.2.1 (t : Int)
                · exact EvP.no (by simp) (keep (fun h => by rw [hw] at h; cases h))
                · refine EvP.yes rfl (EvP.yes (by omega) (EvP.yes (by omega) ?_))
                  cases hu : rdOf false st.2.1 (s : Int)
                  · refine EvP.no (by simp) ?_
                    have p := falses_set (by omega) (get_false (by omega) hu)
                    rw [Int.toNat_natCast]
                    refine ihb (re, st.2.1.set s true, true) ⟨⟨g1.rlen, g1.rsound, g1.start, live_mark hN g1.live hs (a := (b : Int)) (by omega) (by omega) (by omega) (by rw [et]; exact hw)⟩, ⟨by simp only; omega, fun _ => by simp only; omega⟩, fun hc => by cases hc⟩
                  · exact EvP.yes rfl (keep (fun _ => hu))
              have j : ∀ flag : Bool, (flag = true → rdOf false st.1 (s : Int) = true ∧ rdOf false st.1 (t : Int) = false) → (flag = false → (rdOf false st.1 (s : Int) = true → rdOf false st.1 (t : Int) = true)) →
                  EvP (fun k => Zai.j3 k st.1 st.2.1 st.2.2 (s : Int) (t : Int) N (N.length : Int) (s : Int) (Zah N (s : Int)) L (b : Int) flag L S fin N) (IsUse L S N fin) := by
                intro flag f1 f2
                refine EvP.round ?_
                simp only [Zai.j3]
                rw [w64s (by omega)]
                cases flag
                · refine EvP.no (by simp) ?_
                  exact half st.1 st.2.2 h1 h2 (fun hc => ⟨rfl, hc, f2 rfl⟩)
                · obtain ⟨e1, e2⟩ := f1 rfl
                  refine EvP.yes (by trivial) (EvP.yes (by omega) (EvP.yes (by omega) (EvP.here rfl ?_)))
                  have v := falses_set (by omega) (get_false (by omega) e2)
                  rw [Int.toNat_natCast]
                  have := half (st.1.set t true) true (reach_mark h1 (by omega) (by omega) (by omega) (by omega) et e1) ⟨by omega, fun _ => by omega⟩ (fun hc => by cases hc)
                  refine (show EvP _ _ from ?_)
                  obtain ⟨r, m, n⟩ := this
                  refine ⟨r, ?_, n⟩
                  refine Ev.congr (fun k => ?_) m
                  rw [if_pos (by omega : (0 : Int) ≤ t)]
              cases hv : rdOf false st.1 (s : Int)
              · exact EvP.no (by simp) (j false (fun h => by cases h) (fun _ h => by rw [hv] at h; cases h))
              · refine EvP.yes rfl (EvP.yes (by omega) (EvP.yes (by omega) ?_))
                cases hw : rdOf false st.1 (t : Int)
                · exact j true (fun _ => ⟨hv, hw⟩) (fun h => by cases h)
                · exact j false (fun h => by cases h) (fun _ _ => hw))
        have := letters 0 st (by omega) ⟨h1, h2, fun hc => ⟨fun t a h4 h5 h6 h7 => h3 hc t a h4 h5 h6 h7, fun a h5 h6 => absurd h6 (by omega)⟩⟩
        simpa using this)
    have := pass 0 (c, d, false) (by omega) ⟨I0, ⟨Nat.le_refl _, fun h => by cases h⟩, fun _ t a h4 h5 => absurd h5 (by omega)⟩
    simpa using this
  unfold Zai.f
  obtain ⟨S', rfl, hS'⟩ := nat_of hS hSn
  refine EvP.yes (by omega) (EvP.yes (by omega) (EvP.here rfl (EvP.here (clone_eq (by omega)) (EvP.yes (by omega) (EvP.yes (by simp; omega) ?_)))))
  rw [Int.toNat_natCast, Int.toNat_natCast]
  refine main _ _ _ (Nat.le_refl _) ⟨by simp, fun s h0 h1 h => ?_, ?_, ⟨hf, fun s h0 h1 h => .base h0 h1 h, fun s _ _ h => h⟩⟩
  · rw [rdOf_set h0] at h
    by_cases e : s = (S' : Int)
    · subst e; exact .start
    · rw [if_neg (by omega)] at h
      obtain ⟨u, rfl, hu⟩ := nat_of h0 h1
      rw [rdOf_lt (by simp; exact hu)] at h
      simp at h
  · rw [rdOf_set (by omega), if_pos ⟨rfl, by simp; exact hS'⟩]
end Go.Proofs.Ytgindgodfcfgkaa.U
end M1
section M2
namespace Go.Proofs.Ytgindgodfcfgkaa.U
open Go.RowKit Go.Proofs.Ytgindgodfcfgkaa.P Go.Proofs.YtgindgodfcfgkaaW.PrintWords Go.Proofs.YtgindgodfcfgkaaW.PrintLast
set_option linter.unusedVariables false
/-! The program's least machine. -/
def cl (c : List Int) (s : Nat) : Int := rd c (s : Int)
set_option maxHeartbeats 1000000 in
theorem minimal_run {L S : Int} {N : List (List Int)} {fin : List Bool} {V : Nat → Prop} {c : List Int} (hN : Zcm L N) (hn : N.length ≤ 65535) (hf : fin.length = N.length) (hL : 0 ≤ L) (m : L ≤ 1048576) (hc : c.length = N.length)
    (H : ClsOK L.toNat N.length (nxO N) (Za9 fin) V (cl c)) : ∀ (f i : Nat) (l : List Nat) (rows : List (List Int)) (l' : List Nat) (rows' : List (List Int)), mRun L.toNat (nxO N) (cl c) f i l rows = some (l', rows') → LOK V (cl c) l → i ≤ l.length → rows.length = i →
      EvP (fun k => Zaj.l0 k c (l.map fun (x : Nat) => (x : Int)) (i : Int) L S fin N (mapOf (cl c) l 0) L 0 ((l.take i).map (Za9 fin)) rows) (fun r => r = (L, 0, l'.map (Za9 fin), rows'))
  | 0, i, l, rows, l', rows', h, _, _, _ => by simp [mRun] at h
  | f + 1, i, l, rows, l', rows', h, hl, hi, hr => by
    have hrow : ∀ s : Nat, s < N.length → ((Zah N (s : Int)).length : Int) = L := fun s hs => (row_at hN (s := s) (by omega) (by omega)).1
    have hnx : ∀ s a : Nat, rd (Zah N (s : Int)) (a : Int) = nx N s a := fun s a => by unfold nx; rw [if_neg (by omega)]
    have hll := hl.length_le H
    unfold mRun at h
    refine EvP.round ?_
    simp only [Zaj.l0]
    cases e : l[i]? with
    | none =>
      rw [e] at h
      have h := Option.some.inj h
      have hge := List.getElem?_eq_none_iff.1 e
      refine EvP.no (by simp; omega) (EvP.ret ?_)
      rw [List.take_of_length_le hge, ← (Prod.mk.inj h).1, ← (Prod.mk.inj h).2]
    | some s =>
      rw [e] at h
      replace h : mRun L.toNat (nxO N) (cl c) f (i + 1) (mRow L.toNat (nxO N) (cl c) s l).1 (rows ++ [(mRow L.toNat (nxO N) (cl c) s l).2]) = some (l', rows') := h
      have hlt := (List.getElem?_eq_some_iff.1 e).1
      have hsv := hl.v s (List.mem_of_getElem? e)
      have hsn := H.lt s hsv
      refine EvP.yes (by simp; omega) ?_
      have letters := EvP.up (fun k (st : List Nat × List Int) a => Zaj.l1 k c (st.1.map fun (x : Nat) => (x : Int)) (i : Int) st.2 L a L S fin N (mapOf (cl c) st.1 0) L 0 ((l.take i).map (Za9 fin)) rows) (fun r => r = (L, 0, l'.map (Za9 fin), rows')) L.toNat
        (fun a st => st = (List.range a).foldl (mStep (nxO N) (cl c) s) (l, []) ∧ LOK V (cl c) st.1 ∧ (∃ t, st.1 = l ++ t) ∧ st.2.length = a)
        (fun st ⟨h1, h2, ⟨t, h3⟩, h4⟩ => by
          have hst := h2.length_le H
          have hg : (st.1.map fun (x : Nat) => (x : Int))[i]? = some (s : Int) := by
            rw [List.getElem?_map, h3, List.getElem?_append_left hlt, e]; rfl
          have d : i < (st.1.map fun (x : Nat) => (x : Int)).length := (List.getElem?_eq_some_iff.1 hg).1
          have hrd : rd (st.1.map fun (x : Nat) => (x : Int)) (i : Int) = (s : Int) := by
            rw [rd_lt d]; exact (List.getElem?_eq_some_iff.1 hg).2
          refine EvP.round ?_
          simp only [Zaj.l1]
          rw [hrd]
          refine EvP.no (by omega) (EvP.here rfl (EvP.yes (by simp; omega) (EvP.yes (by omega) (EvP.yes (by omega) (EvP.yes (by omega) (EvP.yes (by omega) (EvP.here rfl (EvP.yes (by simp; omega) ?_))))))))
          rw [w64s (by omega)]
          have e2 : (l.take i).map (Za9 fin) ++ [rdOf false fin (s : Int)] = (st.1.take (i + 1)).map (Za9 fin) := by
            have : st.1.take (i + 1) = l.take i ++ [s] := by
              rw [h3, List.take_append_of_le_length (by omega), List.take_add_one, e]
              rfl
            rw [this, List.map_append]
            rfl
          rw [e2]
          have hm : mRow L.toNat (nxO N) (cl c) s l = st := h1.symm
          rw [hm] at h
          exact minimal_run hN hn hf hL m hc H f (i + 1) st.1 (rows ++ [st.2]) l' rows' h h2 (by rw [h3, List.length_append]; omega) (by simp [hr]))
        (fun a st ha ⟨h1, h2, ⟨t, h3⟩, h4⟩ ih => by
          have hst := h2.length_le H
          have hg : (st.1.map fun (x : Nat) => (x : Int))[i]? = some (s : Int) := by
            rw [List.getElem?_map, h3, List.getElem?_append_left hlt, e]; rfl
          have d : i < (st.1.map fun (x : Nat) => (x : Int)).length := (List.getElem?_eq_some_iff.1 hg).1
          have hrd : rd (st.1.map fun (x : Nat) => (x : Int)) (i : Int) = (s : Int) := by
            rw [rd_lt d]; exact (List.getElem?_eq_some_iff.1 hg).2
          have n := hrow s hsn
          have hx := nx_in hN (s := s) (a := a) (by omega) (by omega) (by omega)
          obtain ⟨j, o⟩ := mStep_ok H hsv ha h2 st.2
          have hfold : (List.range (a + 1)).foldl (mStep (nxO N) (cl c) s) (l, []) = mStep (nxO N) (cl c) s (st.1, st.2) a := by
            rw [List.range_succ, List.foldl_append, ← h1]; rfl
          refine EvP.round ?_
          simp only [Zaj.l1]
          rw [hrd, hnx]
          refine EvP.yes (by omega) (EvP.yes (by omega) (EvP.yes (by omega) (EvP.yes (by omega) (EvP.yes (by omega) (EvP.yes (by omega) (EvP.yes (by omega) ?_))))))
          -- nothing there
          have g : mStep (nxO N) (cl c) s (st.1, st.2) a = (st.1, st.2 ++ [-1]) → EvP (fun k => Zaj.j2 k c (st.1.map fun (x : Nat) => (x : Int)) (i : Int) st.2 (nx N s a) L a true L S fin N (mapOf (cl c) st.1 0) L 0 ((l.take i).map (Za9 fin)) rows) (fun r => r = (L, 0, l'.map (Za9 fin), rows')) := by
            intro hm
            refine EvP.round ?_
            simp only [Zaj.j2]
            refine EvP.yes (by trivial) (EvP.here rfl (EvP.yes (by simp; omega) ?_))
            rw [w64s (by omega)]
            exact ih (st.1, st.2 ++ [-1]) ⟨by rw [hfold, hm], h2, ⟨t, h3⟩, by simp [h4]⟩
          by_cases hneg : nx N s a < 0
          · refine EvP.yes hneg (g ?_)
            unfold mStep
            rw [nxO_no hneg]
          · refine EvP.no hneg (EvP.yes (by omega) (EvP.yes (by omega) ?_))
            obtain ⟨x, ex, hxn⟩ := nat_of (by omega : 0 ≤ nx N s a) hx.2
            have hnO : nxO N s a = some x := by rw [nxO_of (by omega), ex]; rfl
            have hxc : rd c (nx N s a) = cl c x := by rw [ex]; rfl
            rw [hxc]
            by_cases hd : cl c x < 0
            · rw [decide_eq_true hd]
              refine g ?_
              unfold mStep
              rw [hnO]
              exact if_pos hd
            · rw [decide_eq_false hd]
              refine EvP.round ?_
              simp only [Zaj.j2]
              refine EvP.no (by simp) (EvP.yes (by omega) (EvP.yes (by omega) ?_))
              rw [hxc]
              have b := mfind_mapOf (cl c) (cl c x) st.1 0 0
              have hms : mStep (nxO N) (cl c) s (st.1, st.2) a = match st.1.findIdx? (fun y => decide (cl c y = cl c x)) with
                | some k => (st.1, st.2 ++ [(k : Int)])
                | none => (st.1 ++ [x], st.2 ++ [(st.1.length : Int)]) := by
                unfold mStep
                rw [hnO]
                exact if_neg hd
              cases hfi : st.1.findIdx? (fun y => decide (cl c y = cl c x)) with
              | some q =>
                rw [hfi] at b hms
                have hyes : mhas (mapOf (cl c) st.1 0) (cl c x) = true := by unfold mhas; rw [b]; rfl
                have hget : mget 0 (mapOf (cl c) st.1 0) (cl c x) = (q : Int) := by unfold mget; rw [b]; simp
                refine EvP.yes hyes (EvP.here rfl (EvP.yes (by simp; omega) ?_))
                rw [hget, w64s (by omega)]
                exact ih (st.1, st.2 ++ [(q : Int)]) ⟨by rw [hfold, hms], h2, ⟨t, h3⟩, by simp [h4]⟩
              | none =>
                rw [hfi] at b hms
                have hno : mhas (mapOf (cl c) st.1 0) (cl c x) = false := by unfold mhas; rw [b]; rfl
                refine EvP.no (by rw [hno]; simp) (EvP.here rfl (EvP.yes (by simp; omega) (EvP.here rfl (EvP.yes (by simp; omega) ?_))))
                rw [ex, List.length_map, w64s (by omega)]
                have hset : mset (mapOf (cl c) st.1 0) (cl c x) (st.1.length : Int) = mapOf (cl c) (st.1 ++ [x]) 0 := by
                  unfold mset
                  rw [b, mapOf_snoc]
                  rfl
                rw [hset]
                rw [hms] at j
                have := ih (st.1 ++ [x], st.2 ++ [(st.1.length : Int)]) ⟨by rw [hfold, hms], j, ⟨t ++ [x], by simp [h3]⟩, by simp [h4]⟩
                simpa using this)
      have := letters 0 (l, []) (by omega) ⟨rfl, hl, ⟨[], by simp⟩, rfl⟩
      simpa using this
/-- What is said of a machine that is least. -/
def LeastR (L : Int) (q : Lang) (n : Nat) (r : Int × Int × List Bool × List (List Int)) : Prop := ∃ qs rows, Zc9 L.toNat q (qs, rows) ∧ r = (L, 0, qs.map (fun q => q []), rows) ∧ qs.length ≤ n
theorem minimal_ev {L S : Int} {N : List (List Int)} {fin : List Bool} (hN : Zcm L N) (hn : N.length ≤ 65535) (hf : fin.length = N.length) (hL : 0 ≤ L) (a : L ≤ 8) (hS : 0 ≤ S) (hSn : S < N.length) :
    EvP (fun k => Zaj.f k L S fin N) (LeastR L (accM L N fin S.toNat) N.length) := by
  obtain ⟨s, rfl, hs⟩ := nat_of hS hSn
  unfold Zaj.f
  refine EvP.bindP (useful_ev fin hN (by omega) hf hL (by omega) hS hSn) fun us ⟨hu, hus⟩ => ?_
  refine EvP.yes (by omega) (EvP.yes (by omega) ?_)
  have hinc : ∀ t : Nat, t < N.length → (rdOf false us (t : Int) = true ↔ incl L.toNat (nxO N) (Za9 fin) (fun x => Rch L N (s : Int) (x : Int)) t) := fun t ht => by
    rw [hus t (by omega) (by omega)]
    exact and_congr Iff.rfl (led_acc hN ht)
  rw [Int.toNat_natCast]
  cases hb : rdOf false us (s : Int)
  · refine EvP.no (by simp) ?_
    have hE : emp (accM L N fin s) := Classical.byContradiction fun hh => by
      have := (hinc s hs).2 ⟨.start, hh⟩
      rw [hb] at this; cases this
    unfold Zcy.f Zbx.f
    rw [if_pos ⟨rfl, hL, a⟩]
    refine EvP.here rfl (EvP.ret ⟨_, _, least_empty _ hE, ?_, by simp; omega⟩)
    simp only [List.map_cons, List.map_nil]
    rw [hE []]
    rfl
  · refine EvP.yes rfl (EvP.bindP (classes_ev hN hn hf hL (by omega) hu hinc (vok_rch hN hS hSn)) fun c ⟨hc, H⟩ => EvP.yes (by omega) ?_)
    have hi := (hinc s hs).1 hb
    have hcs : 0 ≤ cl c s := by
      refine Classical.byContradiction fun hh => hi.2 ((H.dead s hi.1).1 ?_)
      exact Int.not_le.1 hh
    obtain ⟨l, rows, h1, h2, h3⟩ := mRun_least (cls := cl c) H hi.1 hcs
    have := minimal_run (S := s) hN hn hf hL (by omega) hc H _ 0 [s] [] l rows h1 ⟨fun x hx => by rw [List.mem_singleton.1 hx]; exact hi.1, fun x hx => by rw [List.mem_singleton.1 hx]; exact hcs, List.pairwise_singleton _ _⟩ (by simp) rfl
    refine EvP.mono this fun r hr => ⟨_, _, h3, ?_, by rw [List.length_map]; exact h2.length_le H⟩
    rw [hr, List.map_map]
    rfl
end Go.Proofs.Ytgindgodfcfgkaa.U
end M2
section M3
namespace Go.Proofs.Ytgindgodfcfgkaa.U
open Go.RowKit Go.Proofs.Ytgindgodfcfgkaa.P Go.Proofs.YtgindgodfcfgkaaW.PrintWords Go.Proofs.YtgindgodfcfgkaaW.PrintLast
set_option linter.unusedVariables false
/-! The reference's classes. -/
theorem alike_ev {L : Int} {N : List (List Int)} (good : List Bool) (c : List Int) (hN : Zcm L N) (hn : N.length ≤ 1048576) (hc : c.length = N.length) (hL : 0 ≤ L) (d : L ≤ 1048576) {s t : Nat} (hs : s < N.length) (ht : t < N.length) :
    Ev (fun k => Zbq.f k L N good c (s : Int) (t : Int)) (decide (rd c (s : Int) = rd c (t : Int) ∧ ∀ a : Nat, a < L.toNat → clsN c (nx N s a) = clsN c (nx N t a))) := by
  have hrow : ∀ s : Nat, s < N.length → ((Zah N (s : Int)).length : Int) = L := fun s hs => (row_at hN (s := s) (by omega) (by omega)).1
  have hnx : ∀ s a : Nat, rd (Zah N (s : Int)) (a : Int) = nx N s a := fun s a => by unfold nx; rw [if_neg (by omega)]
  have hcl : ∀ s a : Nat, s < N.length → a < L.toNat → Za8.f c (nx N s a) = some (clsN c (nx N s a)) := fun s a hs ha => by
    have hx := nx_in hN (s := s) (a := a) (by omega) (by omega) (by omega)
    unfold Za8.f clsN
    by_cases h : nx N s a < 0
    · rw [if_pos h, if_neg (by omega)]
    · rw [if_neg h, if_pos (by omega), if_pos (by omega), if_pos (by omega)]
  unfold Zbq.f
  refine Ev.yes (by omega) (Ev.yes (by omega) (Ev.yes (by omega) (Ev.yes (by omega) ?_)))
  by_cases e : rd c (s : Int) = rd c (t : Int)
  · refine Ev.yes e ?_
    have key := Ev.up (fun k (_ : Unit) a => Zbq.l0 k c (s : Int) (t : Int) a L N good) L.toNat (fun _ _ => decide (rd c (s : Int) = rd c (t : Int) ∧ ∀ a : Nat, a < L.toNat → clsN c (nx N s a) = clsN c (nx N t a)))
      (fun b _ => ∀ a : Nat, a < b → clsN c (nx N s a) = clsN c (nx N t a))
      (fun _ h => by
        refine Ev.round ?_
        simp only [Zbq.l0]
        refine Ev.no (by omega) ?_
        rw [decide_eq_true ⟨e, h⟩]
        exact Ev.now _)
      (fun b _ hb h ih => by
        have r1 := hrow s hs
        have r2 := hrow t ht
        refine Ev.round ?_
        simp only [Zbq.l0]
        refine Ev.yes (by omega) (Ev.yes (by omega) (Ev.yes (by omega) (Ev.yes (by omega) (Ev.yes (by omega) ?_))))
        rw [hnx, hnx, w64s (by omega)]
        refine Ev.here (hcl s b hs hb) (Ev.yes (by omega) (Ev.yes (by omega) (Ev.yes (by omega) (Ev.here (hcl t b ht hb) ?_))))
        by_cases e2 : clsN c (nx N s b) = clsN c (nx N t b)
        · refine Ev.yes e2 (ih () fun a ha => ?_)
          by_cases e3 : a = b
          · subst e3; exact e2
          · exact h a (by omega)
        · refine Ev.no e2 ?_
          rw [decide_eq_false (fun hh => e2 (hh.2 b hb))]
          exact Ev.now _)
    have := key 0 () (by omega) (fun a ha => absurd ha (by omega))
    simpa using this
  · refine Ev.no e ?_
    rw [decide_eq_false (fun hh => e hh.1)]
    exact Ev.now _
set_option maxHeartbeats 1000000 in
theorem l11Classes_ev {L : Int} {N : List (List Int)} {good : List Bool} (hN : Zcm L N) (hn : N.length ≤ 1048575) (hg : good.length = N.length) (hL : 0 ≤ L) (o : L ≤ 1048576) :
    EvP (fun k => Zam.f k L N good) (fun r => (r.length = N.length ∧ ∀ s : Nat, s < N.length → rd r (s : Int) < N.length) ∧ ClsOK L.toNat N.length (nxO N) (Za9 good) (fun s => s < N.length) (fun s => rd r (s : Int))) := by
  have hV : VOK L.toNat N.length (nxO N) (fun s => s < N.length) := vok_all hN
  have hinc : ∀ s, s < N.length → (incl L.toNat (nxO N) (Za9 good) (fun s => s < N.length) s ↔ Led L N good s) := fun s hs => by
    rw [led_acc hN hs]
    exact ⟨fun h => h.2, fun h => ⟨hs, h⟩⟩
  have pass : ∀ (d : Nat) (c : List Int) (m : Int), c.length = N.length → RI L.toNat N.length (nxO N) (Za9 good) (fun s => s < N.length) (fun s => rd c (s : Int)) → Many N.length (incl L.toNat (nxO N) (Za9 good) (fun s => s < N.length)) (fun s => rd c (s : Int)) m → -1 ≤ m → (N.length : Int) < m + d →
      EvP (fun k => Zam.l1 k c m L N good) (fun r => (r.length = N.length ∧ ∀ s : Nat, s < N.length → rd r (s : Int) < N.length) ∧ ClsOK L.toNat N.length (nxO N) (Za9 good) (fun s => s < N.length) (fun s => rd r (s : Int))) := by
    intro d
    induction d with
    | zero => intro c m h1 h2 h4 h5 h6; exact absurd h6 (by (rcases h4 with h4 | ⟨k, rfl, C⟩); omega; (have := cnt_le C); omega)
    | succ d ihd =>
    intro c m hc hR hM hm hd
    let sg : Nat → Int × List Int := sigO L.toNat (nxO N) (fun s => rd c (s : Int))
    have sg_iff : ∀ s t : Nat, sg s = sg t ↔ (rd c (s : Int) = rd c (t : Int) ∧ ∀ a : Nat, a < L.toNat → clsN c (nx N s a) = clsN c (nx N t a)) := fun s t => by
      show sigO _ _ _ _ = sigO _ _ _ _ ↔ _
      rw [sigO_iff]
      refine and_congr Iff.rfl ⟨fun h a ha => ?_, fun h a ha => ?_⟩
      · rw [clsN_eq, clsN_eq]; exact h a ha
      · rw [← clsN_eq, ← clsN_eq]; exact h a ha
    have states := EvP.up (fun k (st : List Nat × List Int) i => Zam.l2 k c m st.2 (st.1.map fun (x : Nat) => (x : Int)) i L N good) (fun r => (r.length = N.length ∧ ∀ s : Nat, s < N.length → rd r (s : Int) < N.length) ∧ ClsOK L.toNat N.length (nxO N) (Za9 good) (fun s => s < N.length) (fun s => rd r (s : Int))) N.length
      (fun i st => st.2.length = N.length ∧ PassI (incl L.toNat (nxO N) (Za9 good) (fun s => s < N.length)) sg i st.1 (fun s => rd st.2 (s : Int)))
      (fun st ⟨h1, I⟩ => by
        refine EvP.round ?_
        simp only [Zam.l2]
        refine EvP.no (by omega) ?_
        rw [List.length_map]
        by_cases e : (st.1.length : Int) = m
        · refine EvP.yes e (EvP.ret ⟨⟨h1, fun s hs => ?_⟩, many_done hV hR hM I e⟩)
          by_cases hi : incl L.toNat (nxO N) (Za9 good) (fun s => s < N.length) s
          · have := I.cnt.lt s hs hi
            have := cnt_le I.cnt
            omega
          · have := I.out s hs hi; omega
        · refine EvP.no e ?_
          obtain ⟨g1, g2, g3⟩ := many_more hM I e
          exact ihd st.2 _ h1 (hR.step hV I.ref) g1 (by omega) (by omega))
      (fun i st hi ⟨h1, I⟩ ih => by
        have hkl : st.1.length ≤ N.length := by
          have := cnt_le I.cnt
          omega
        refine EvP.round ?_
        simp only [Zam.l2]
        refine EvP.yes (by omega) (EvP.yes (by omega) (EvP.yes (by omega) (EvP.here rfl ?_)))
        rw [Int.toNat_natCast]
        have keep : ∀ (l : List Int) (v : Int), (∀ s : Nat, s < i → rd l (s : Int) = rd st.2 (s : Int)) → ∀ s : Nat, s < i → rd (l.set i v) (s : Int) = rd st.2 (s : Int) := fun l v hl s hs => by rw [Zdh (by omega)]; exact hl s hs
        have g := keep st.2 (-1) (fun _ _ => rfl)
        by_cases hneg : rd c (i : Int) < 0
        · refine EvP.yes hneg ?_
          rw [w64s (by omega)]
          have hni : ¬ incl L.toNat (nxO N) (Za9 good) (fun s => s < N.length) i := fun hh => by have := hR.nn i hi hh; omega
          exact ih (st.1, st.2.set i (-1)) ⟨by simp [h1], I.skip hni (Zb8 (by omega) _) g⟩
        · have hin : incl L.toNat (nxO N) (Za9 good) (fun s => s < N.length) i := Classical.byContradiction fun hh => by have := hR.out i hi hh; omega
          refine EvP.no hneg ?_
          -- the end of the search
          have found : ∀ (q b : Nat) (hq : q < st.1.length), sg st.1[q] = sg i → EvP (fun k => Zam.j4 k c m ((st.2.set i (-1)).set i q) (st.1.map fun (x : Nat) => (x : Int)) (i : Int) b false L N good) (fun r => (r.length = N.length ∧ ∀ s : Nat, s < N.length → rd r (s : Int) < N.length) ∧ ClsOK L.toNat N.length (nxO N) (Za9 good) (fun s => s < N.length) (fun s => rd r (s : Int))) := by
            intro q b hq hsg
            have hv : rd ((st.2.set i (-1)).set i q) (i : Int) = q := Zb8 (by simp; omega) _
            refine EvP.round ?_
            simp only [Zam.j4]
            refine EvP.no (by simp) (EvP.yes (by omega) (EvP.yes (by simp; omega) (EvP.no (by omega) ?_)))
            rw [w64s (by omega)]
            exact ih (st.1, _) ⟨by simp [h1], I.known (List.getElem?_eq_getElem hq) hsg hv (keep _ _ g) hin⟩
          have search := EvP.up (fun k (_ : Unit) b => Zam.l3 k c m (st.2.set i (-1)) (st.1.map fun (x : Nat) => (x : Int)) (i : Int) b L N good) (fun r => (r.length = N.length ∧ ∀ s : Nat, s < N.length → rd r (s : Int) < N.length) ∧ ClsOK L.toNat N.length (nxO N) (Za9 good) (fun s => s < N.length) (fun s => rd r (s : Int))) st.1.length
            (fun b _ => ∀ (q : Nat) (hq : q < st.1.length), q < b → sg st.1[q] ≠ sg i)
            (fun _ h => by
              have hv : rd (st.2.set i (-1)) (i : Int) = -1 := Zb8 (by omega) _
              refine EvP.round ?_
              simp only [Zam.l3]
              refine EvP.no (by simp) (EvP.round ?_)
              simp only [Zam.j4]
              refine EvP.no (by simp) (EvP.yes (by omega) (EvP.yes (by simp; omega) (EvP.yes (by omega) (EvP.yes (by simp; omega) ?_))))
              rw [w64s (by omega), Int.toNat_natCast, List.length_map]
              have := ih (st.1 ++ [i], (st.2.set i (-1)).set i st.1.length) ⟨by simp [h1], I.new (fun x hx e => ?_) (Zb8 (by simp; omega) _) (keep _ _ g) hin⟩
              · simpa using this
              · obtain ⟨q, hq, rfl⟩ := List.mem_iff_getElem.1 hx
                exact h q hq hq e)
            (fun b _ hb h ihb => by
              have hv : rd (st.2.set i (-1)) (i : Int) = -1 := Zb8 (by omega) _
              have hkb : rd (st.1.map fun (x : Nat) => (x : Int)) (b : Int) = ((st.1[b] : Nat) : Int) := by rw [rd_lt (by simp; omega)]; simp
              have hbn := (I.first _ (List.getElem_mem hb)).1
              refine EvP.round ?_
              simp only [Zam.l3]
              refine EvP.yes (by simp; omega) (EvP.yes (by omega) (EvP.yes (by simp; omega) (EvP.round ?_)))
              simp only [Zam.j4]
              refine EvP.yes (by rw [hv]; rfl) (EvP.yes (by omega) (EvP.yes (by simp; omega) ?_))
              rw [hkb, w64s (by omega), Int.toNat_natCast]
              refine EvP.bind (alike_ev good c hN (by omega) hc hL o hi (by omega)) ?_
              by_cases e : sg st.1[b] = sg i
              · rw [decide_eq_true ((sg_iff i st.1[b]).1 e.symm)]
                refine EvP.yes (by trivial) (EvP.yes (by omega) (EvP.yes (by simp; omega) (EvP.round ?_)))
                simp only [Zam.l3]
                by_cases h5 : ((b + 1 : Nat) : Int) < ((st.1.map fun (x : Nat) => (x : Int)).length : Int)
                · refine EvP.yes h5 (EvP.yes (by omega) (EvP.yes (by simp; omega) ?_))
                  have u : rd ((st.2.set i (-1)).set i b) (i : Int) = b := Zb8 (by simp; omega) _
                  rw [u, decide_eq_false (by omega)]
                  exact found b (b + 1) hb e
                · exact EvP.no h5 (found b (b + 1) hb e)
              · rw [decide_eq_false (fun hh => e ((sg_iff i st.1[b]).2 hh).symm)]
                refine EvP.no (by simp) (ihb () fun q hq hqb => ?_)
                by_cases e2 : q = b
                · subst e2; exact e
                · exact h q hq (by omega))
          have := search 0 () (by omega) (fun q _ hq => absurd hq (by omega))
          simpa using this)
    refine EvP.round ?_
    simp only [Zam.l1]
    refine EvP.yes (by omega) (EvP.yes (by omega) ?_)
    have := states 0 ([], List.replicate c.length 0) (by omega) ⟨by simp [hc], PassI.start⟩
    simpa using this
  unfold Zam.f
  refine EvP.bindP (l11Live_ev good hN (by omega) hg hL o) fun live ⟨hl, hlive⟩ => ?_
  have first := EvP.up (fun k (c : List Int) i => Zam.l0 k live c i L N good) (fun r => (r.length = N.length ∧ ∀ s : Nat, s < N.length → rd r (s : Int) < N.length) ∧ ClsOK L.toNat N.length (nxO N) (Za9 good) (fun s => s < N.length) (fun s => rd r (s : Int))) N.length
    (fun i c => c.length = N.length ∧ (∀ s, s < i → ¬ incl L.toNat (nxO N) (Za9 good) (fun s => s < N.length) s → rd c (s : Int) = -1) ∧ (∀ s, s < i → incl L.toNat (nxO N) (Za9 good) (fun s => s < N.length) s → rd c (s : Int) = if Za9 good s then 1 else 0) ∧ ∀ s, i ≤ s → rd c (s : Int) = 0)
    (fun c ⟨h1, h2, h3, _⟩ => by
      refine EvP.round ?_
      simp only [Zam.l0]
      refine EvP.no (by omega) ?_
      exact pass (N.length + 2) c (-1) h1 (ri_first h2 h3) (.inl (by omega)) (by omega) (by omega))
    (fun i c hi ⟨h1, h2, h3, h4⟩ ih => by
      refine EvP.round ?_
      simp only [Zam.l0]
      refine EvP.yes (by omega) (EvP.yes (by omega) (EvP.yes (by omega) ?_))
      rw [w64s (by omega), Int.toNat_natCast]
      have n : ∀ v : Int, (¬ incl L.toNat (nxO N) (Za9 good) (fun s => s < N.length) i → v = -1) → (incl L.toNat (nxO N) (Za9 good) (fun s => s < N.length) i → v = if Za9 good i then 1 else 0) → (c.set i v).length = N.length ∧ (∀ s, s < i + 1 → ¬ incl L.toNat (nxO N) (Za9 good) (fun s => s < N.length) s → rd (c.set i v) (s : Int) = -1) ∧ (∀ s, s < i + 1 → incl L.toNat (nxO N) (Za9 good) (fun s => s < N.length) s → rd (c.set i v) (s : Int) = if Za9 good s then 1 else 0) ∧ ∀ s, i + 1 ≤ s → rd (c.set i v) (s : Int) = 0 := by
        intro v g1 g2
        refine ⟨by simp [h1], fun s hs hn => ?_, fun s hs hn => ?_, fun s hs => ?_⟩
        · by_cases e : s = i
          · subst e; rw [Zb8 (by omega)]; exact g1 hn
          · rw [Zdh (by omega)]; exact h2 s (by omega) hn
        · by_cases e : s = i
          · subst e; rw [Zb8 (by omega)]; exact g2 hn
          · rw [Zdh (by omega)]; exact h3 s (by omega) hn
        · rw [Zdh (by omega)]; exact h4 s (by omega)
      have p := (hlive i (by omega) (by omega)).trans (hinc i hi).symm
      cases hui : rdOf false live (i : Int)
      · refine EvP.no (by simp) (ih _ (n (-1) (fun _ => rfl) (fun hh => ?_)))
        rw [p.2 hh] at hui; cases hui
      · refine EvP.yes rfl (EvP.yes (by omega) ?_)
        have hin := p.1 hui
        cases hg : rdOf false good (i : Int)
        · refine EvP.no (by simp) (ih c ?_)
          have hz := h4 i (by omega)
          have hcs : c.set i 0 = c := by
            apply List.ext_getElem?
            intro j
            rw [List.getElem?_set]
            by_cases e : i = j
            · subst e
              rw [rd_lt (by omega : i < c.length)] at hz
              rw [if_pos rfl, if_pos (by omega), List.getElem?_eq_getElem (by omega), hz]
            · rw [if_neg e]
          have := n 0 (fun hh => absurd hin hh) (fun _ => by show (0 : Int) = if rdOf false good (i : Int) then 1 else 0; rw [hg]; rfl)
          rw [hcs] at this
          exact this
        · refine EvP.yes rfl (ih _ (n 1 (fun hh => absurd hin hh) (fun _ => ?_)))
          show (1 : Int) = if rdOf false good (i : Int) then 1 else 0
          rw [hg]; rfl)
  refine EvP.yes (by omega) (EvP.yes (by omega) ?_)
  have := first 0 (List.replicate N.length 0) (by omega) ⟨by simp, fun s hs => absurd hs (by omega), fun s hs => absurd hs (by omega), fun s _ => by
    show (List.replicate N.length (0 : Int)).getD s 0 = 0
    rw [List.getD_eq_getElem?_getD, List.getElem?_replicate]
    split <;> rfl⟩
  simpa using this
end Go.Proofs.Ytgindgodfcfgkaa.U
end M3
section M4
namespace Go.Proofs.Ytgindgodfcfgkaa.U
open Go.RowKit Go.Proofs.Ytgindgodfcfgkaa.P Go.Proofs.YtgindgodfcfgkaaW.PrintWords Go.Proofs.YtgindgodfcfgkaaW.PrintLast
set_option linter.unusedVariables false
/-! The reference's least machine. -/
/-- The set of the states that are final, as a number. -/
def maskQ (qs : List Lang) : Int := ((orN (fun j => ((qs[j]?).map fun q => q []).getD false) qs.length 0 : Nat) : Int)
def MinR (L : Int) (qs : List Lang) (rows : List (List Int)) : Int × Int × Int × List (List Int) × Int := if qs.length ≤ 16 then (L, 0, maskQ qs, rows, (qs.length : Int)) else (0, 0, 0, [], (qs.length : Int))
theorem orN_succ (p : Nat → Bool) (n : Nat) : orN p (n + 1) 0 = if p n then orN p n 0 ||| 2 ^ n else orN p n 0 := rfl
def clS (c : List Int) (s : Nat) : Int := rd c (s : Int)
/-- The numbers given so far: for each class the place of its state in the list. -/
structure NumI (n : Nat) (c : List Int) (l : List Nat) (x : List Int) : Prop where
  len : x.length = n + 1
  at_ : ∀ k : Nat, k < n + 1 → rd x (k : Int) = match l.findIdx? (fun y => decide (clS c y = (k : Int))) with
    | some q => (q : Int)
    | none => -1
theorem NumI.new {n : Nat} {c : List Int} {l : List Nat} {x : List Int} (I : NumI n c l x) {y k : Nat} (hk : k < n + 1) (hy : clS c y = (k : Int)) (h : l.findIdx? (fun y => decide (clS c y = (k : Int))) = none) : NumI n c (l ++ [y]) (x.set k (l.length : Int)) := by
  refine ⟨by simp [I.len], fun j hj => ?_⟩
  rw [List.findIdx?_append]
  by_cases e : j = k
  · subst e
    rw [Zb8 (by rw [I.len]; omega), h]
    simp [List.findIdx?_cons, hy]
  · rw [Zdh (fun h => e h.symm), I.at_ j hj]
    have : [y].findIdx? (fun y => decide (clS c y = (j : Int))) = none := by
      simp [List.findIdx?_cons, hy]; omega
    rw [this]
    simp
theorem rd_cast {l : List Nat} {i s : Nat} (h : l[i]? = some s) : rd (l.map fun (x : Nat) => (x : Int)) (i : Int) = (s : Int) := by
  have hl := (List.getElem?_eq_some_iff.1 h).1
  rw [rd_lt (by simp; exact hl)]
  simp [(List.getElem?_eq_some_iff.1 h).2]
theorem l11Mask_ev {L : Int} {N : List (List Int)} {good : List Bool} (hg : good.length = N.length) (l : List Nat) (hl : ∀ x ∈ l, x < N.length) (a : l.length ≤ 16) (rows : List (List Int)) :
    EvP (fun k => Zag.l3 k (l.map fun (x : Nat) => (x : Int)) (l.length : Int) 0 L N good L 0 0 rows) (fun r => r = (L, 0, ((orN (fun j => ((l[j]?).map (Za9 good)).getD false) l.length 0 : Nat) : Int), rows, (l.length : Int))) := by
  have key := EvP.up (fun k (m : Int) i => Zag.l3 k (l.map fun (x : Nat) => (x : Int)) (l.length : Int) i L N good L 0 m rows) (fun r => r = (L, 0, ((orN (fun j => ((l[j]?).map (Za9 good)).getD false) l.length 0 : Nat) : Int), rows, (l.length : Int))) l.length
    (fun i m => m = ((orN (fun j => ((l[j]?).map (Za9 good)).getD false) i 0 : Nat) : Int))
    (fun m hm => by
      refine EvP.round ?_
      simp only [Zag.l3]
      refine EvP.no (by omega) ?_
      rw [hm]
      exact EvP.ret rfl)
    (fun i m hi hm ih => by
      refine EvP.round ?_
      simp only [Zag.l3]
      have e := List.getElem?_eq_getElem hi
      rw [rd_cast e]
      have hs := hl _ (List.getElem_mem hi)
      refine EvP.yes (by omega) (EvP.yes (by omega) (EvP.yes (by simp; omega) (EvP.yes (by omega) (EvP.yes (by omega) ?_))))
      rw [w64s (by omega)]
      have hlt : orN (fun j => ((l[j]?).map (Za9 good)).getD false) i 0 < 2 ^ 63 := orN_lt _ _ _ 63 (by omega) (by decide)
      have hp : (2 : Nat) ^ i < 2 ^ 63 := Nat.pow_lt_pow_right (by decide) (by omega)
      cases hv : rdOf false good ((l[i] : Nat) : Int)
      · refine EvP.no (by simp) (ih m ?_)
        rw [hm, orN_succ, if_neg (by rw [e]; show ¬ (Za9 good l[i] = true); unfold Za9; rw [hv]; simp)]
      · refine EvP.yes rfl (EvP.here (spOne (by omega) (by omega)) (ih _ ?_))
        rw [hm, shl1 (by omega), bor hlt hp, orN_succ, if_pos (by rw [e]; exact hv)])
  have := key 0 0 (by omega) rfl
  simpa using this
theorem least_mask {L : Int} {l : List Nat} {good : List Bool} {N : List (List Int)} : ((orN (fun j => ((l[j]?).map (Za9 good)).getD false) l.length 0 : Nat) : Int) = maskQ (l.map (accM L N good)) := by
  unfold maskQ
  rw [List.length_map]
  refine congrArg _ (orN_congr fun j hj => ?_)
  rw [List.getElem?_map, Option.map_map]
  rfl
theorem l11ClassOf_at {L : Int} {N : List (List Int)} (hN : Zcm L N) {c : List Int} (hc : c.length = N.length) {s a : Nat} (hs : s < N.length) (ha : a < L.toNat) : Za8.f c (nx N s a) = some (clsN c (nx N s a)) := by
  have hx := nx_in hN (s := s) (a := a) (by omega) (by omega) (by omega)
  unfold Za8.f clsN
  by_cases h : nx N s a < 0
  · rw [if_pos h, if_neg (by omega)]
  · rw [if_neg h, if_pos (by omega), if_pos (by omega), if_pos (by omega)]
set_option maxHeartbeats 1000000 in
theorem l11Minimal_run {L : Int} {N : List (List Int)} {good : List Bool} {c : List Int} (hN : Zcm L N) (hn : N.length ≤ 1048575) (hg : good.length = N.length) (hL : 0 ≤ L) (j : L ≤ 1048576) (hc : c.length = N.length) (hcb : ∀ s : Nat, s < N.length → rd c (s : Int) < N.length)
    (H : ClsOK L.toNat N.length (nxO N) (Za9 good) (fun s => s < N.length) (clS c)) (h0 : 0 ≤ rd c 0) (m : 0 < N.length) : ∀ (f i : Nat) (l : List Nat) (rows : List (List Int)) (x : List Int) (l' : List Nat) (rows' : List (List Int)), mRun L.toNat (nxO N) (clS c) f i l rows = some (l', rows') → LOK (fun s => s < N.length) (clS c) l → i ≤ l.length → rows.length = i → NumI N.length c l x →
      EvP (fun k => Zag.l1 k c (l.map fun (x : Nat) => (x : Int)) x (i : Int) L N good L 0 0 rows) (fun r => r = MinR L (l'.map (accM L N good)) rows')
  | 0, i, l, rows, x, l', rows', h, _, _, _, _ => by simp [mRun] at h
  | f + 1, i, l, rows, x, l', rows', h, hl, hi, hr, hx => by
    have hrow : ∀ s : Nat, s < N.length → ((Zah N (s : Int)).length : Int) = L := fun s hs => (row_at hN (s := s) (by omega) (by omega)).1
    have hnx : ∀ s a : Nat, rd (Zah N (s : Int)) (a : Int) = nx N s a := fun s a => by unfold nx; rw [if_neg (by omega)]
    have hll := hl.length_le H
    unfold mRun at h
    refine EvP.round ?_
    simp only [Zag.l1]
    cases e : l[i]? with
    | none =>
      rw [e] at h
      have h := Option.some.inj h
      have hge := List.getElem?_eq_none_iff.1 e
      refine EvP.no (by simp; omega) ?_
      rw [← (Prod.mk.inj h).1, ← (Prod.mk.inj h).2]
      unfold MinR
      by_cases d : l.length ≤ 16
      · refine EvP.no (by simp; omega) ?_
        rw [if_pos (by simpa using d), ← least_mask]
        have := l11Mask_ev (L := L) hg l hl.v d rows
        simpa using this
      · refine EvP.yes (by simp; omega) ?_
        rw [if_neg (by simpa using d)]
        refine EvP.ret ?_
        simp
    | some s =>
      rw [e] at h
      replace h : mRun L.toNat (nxO N) (clS c) f (i + 1) (mRow L.toNat (nxO N) (clS c) s l).1 (rows ++ [(mRow L.toNat (nxO N) (clS c) s l).2]) = some (l', rows') := h
      have hlt := (List.getElem?_eq_some_iff.1 e).1
      have hsn : s < N.length := hl.v s (List.mem_of_getElem? e)
      refine EvP.yes (by simp; omega) ?_
      have letters := EvP.up (fun k (st : (List Nat × List Int) × List Int) a => Zag.l2 k c (st.1.1.map fun (x : Nat) => (x : Int)) st.2 (i : Int) st.1.2 a L N good L 0 0 rows) (fun r => r = MinR L (l'.map (accM L N good)) rows') L.toNat
        (fun a st => st.1 = (List.range a).foldl (mStep (nxO N) (clS c) s) (l, []) ∧ LOK (fun s => s < N.length) (clS c) st.1.1 ∧ (∃ t, st.1.1 = l ++ t) ∧ st.1.2.length = a ∧ NumI N.length c st.1.1 st.2)
        (fun st ⟨h1, h2, ⟨t, h3⟩, h4, h5⟩ => by
          refine EvP.round ?_
          simp only [Zag.l2]
          refine EvP.no (by omega) (EvP.yes (by omega) ?_)
          rw [w64s (by omega)]
          have hm : mRow L.toNat (nxO N) (clS c) s l = st.1 := h1.symm
          rw [hm] at h
          exact l11Minimal_run hN hn hg hL j hc hcb H h0 m f (i + 1) st.1.1 (rows ++ [st.1.2]) st.2 l' rows' h h2 (by rw [h3, List.length_append]; omega) (by simp [hr]) h5)
        (fun a st ha ⟨h1, h2, ⟨t, h3⟩, h4, h5⟩ ih => by
          have hst := h2.length_le H
          have hg : st.1.1[i]? = some s := by rw [h3, List.getElem?_append_left hlt, e]
          have o := (List.getElem?_eq_some_iff.1 hg).1
          have hrd := rd_cast hg
          have p := hrow s hsn
          have hx := nx_in hN (s := s) (a := a) (by omega) (by omega) (by omega)
          obtain ⟨g, w⟩ := mStep_ok H hsn ha h2 st.1.2
          have hfold : (List.range (a + 1)).foldl (mStep (nxO N) (clS c) s) (l, []) = mStep (nxO N) (clS c) s (st.1.1, st.1.2) a := by
            rw [List.range_succ, List.foldl_append, ← h1]; rfl
          refine EvP.round ?_
          simp only [Zag.l2]
          rw [hrd, hnx]
          refine EvP.yes (by omega) (EvP.yes (by omega) (EvP.yes (by simp; omega) (EvP.yes (by omega) (EvP.yes (by omega) (EvP.yes (by omega) (EvP.yes (by omega) (EvP.here (l11ClassOf_at hN hc hsn ha) (EvP.yes (by omega) (EvP.no (by omega) ?_)))))))))
          -- nothing there
          have b : mStep (nxO N) (clS c) s (st.1.1, st.1.2) a = (st.1.1, st.1.2 ++ [-1]) → EvP (fun k => Zag.j4 k c (st.1.1.map fun (x : Nat) => (x : Int)) st.2 (i : Int) st.1.2 a (clsN c (nx N s a)) true L N good L 0 0 rows) (fun r => r = MinR L (l'.map (accM L N good)) rows') := by
            intro hm
            refine EvP.round ?_
            simp only [Zag.j4]
            refine EvP.yes (by trivial) (EvP.yes (by omega) ?_)
            rw [w64s (by omega)]
            exact ih ((st.1.1, st.1.2 ++ [-1]), st.2) ⟨by rw [hfold, hm], h2, ⟨t, h3⟩, by simp [h4], h5⟩
          by_cases hneg : nx N s a < 0
          · have : clsN c (nx N s a) < 0 := by unfold clsN; rw [if_neg (by omega)]; omega
            rw [decide_eq_true this]
            refine b ?_
            unfold mStep
            rw [nxO_no hneg]
          · obtain ⟨y, ey, hyn⟩ := nat_of (by omega : 0 ≤ nx N s a) hx.2
            have hnO : nxO N s a = some y := by rw [nxO_of (by omega), ey]; rfl
            have hxc : clsN c (nx N s a) = clS c y := by rw [ey]; unfold clsN; rw [if_pos (by omega)]; rfl
            by_cases hd : clS c y < 0
            · rw [decide_eq_true (by rw [hxc]; exact hd)]
              refine b ?_
              unfold mStep
              rw [hnO]
              exact if_pos hd
            · rw [hxc, decide_eq_false hd]
              have hyb : clS c y < N.length := hcb y hyn
              obtain ⟨q, hq, hqn⟩ := nat_of (n := N.length) (by omega : 0 ≤ clS c y) hyb
              refine EvP.round ?_
              simp only [Zag.j4]
              have hlen := h5.len
              refine EvP.no (by simp) (EvP.yes (by omega) (EvP.yes (by omega) ?_))
              have hat := h5.at_ q (by omega)
              have hms : mStep (nxO N) (clS c) s (st.1.1, st.1.2) a = match st.1.1.findIdx? (fun z => decide (clS c z = (q : Int))) with
                | some k => (st.1.1, st.1.2 ++ [(k : Int)])
                | none => (st.1.1 ++ [y], st.1.2 ++ [(st.1.1.length : Int)]) := by
                unfold mStep
                rw [hnO, ← hq]
                exact if_neg hd
              rw [hq]
              cases hfi : st.1.1.findIdx? (fun z => decide (clS c z = (q : Int))) with
              | some u =>
                rw [hfi] at hat hms
                replace hat : rd st.2 (q : Int) = (u : Int) := hat
                refine EvP.no (by omega) (EvP.yes (by omega) ?_)
                rw [hat, w64s (by omega)]
                exact ih ((st.1.1, st.1.2 ++ [(u : Int)]), st.2) ⟨by rw [hfold, hms], h2, ⟨t, h3⟩, by simp [h4], h5⟩
              | none =>
                rw [hfi] at hat hms
                replace hat : rd st.2 (q : Int) = -1 := hat
                refine EvP.yes (by omega) (EvP.here rfl (EvP.yes (by omega) (EvP.yes (by simp; omega) (EvP.yes (by rw [hrd]; omega) (EvP.yes (by rw [hrd]; omega) (EvP.yes (by omega) (EvP.yes (by rw [hrd]; omega) (EvP.yes (by simp; omega) (EvP.yes (by omega) ?_)))))))))
                rw [Int.toNat_natCast, List.length_map, Zb8 (by omega), w64s (by omega), hrd, hnx, ey]
                rw [hms] at g
                have := ih ((st.1.1 ++ [y], st.1.2 ++ [(st.1.1.length : Int)]), st.2.set q (st.1.1.length : Int)) ⟨by rw [hfold, hms], g, ⟨t ++ [y], by simp [h3]⟩, by simp [h4], h5.new (by omega) hq hfi⟩
                simpa using this)
      have := letters 0 ((l, []), x) (by omega) ⟨rfl, hl, ⟨[], by simp⟩, rfl, hx⟩
      simpa using this
/-- The reference's least machine of no words. -/
theorem l11Minimal_dead {L : Int} {N : List (List Int)} {good : List Bool} {c : List Int} (hN : Zcm L N) (hn : N.length ≤ 1048575) (hg : good.length = N.length) (hL : 0 ≤ L) (d : L ≤ 1048576) (hc : c.length = N.length) (h0 : rd c 0 < 0) (b : 0 < N.length) (hgd : Za9 good 0 = false) (x : List Int) :
    EvP (fun k => Zag.l1 k c [0] x 0 L N good L 0 0 []) (fun r => r = (L, 0, 0, [List.replicate L.toNat (-1)], 1)) := by
  have hrow : ∀ s : Nat, s < N.length → ((Zah N (s : Int)).length : Int) = L := fun s hs => (row_at hN (s := s) (by omega) (by omega)).1
  have hnx : ∀ s a : Nat, rd (Zah N (s : Int)) (a : Int) = nx N s a := fun s a => by unfold nx; rw [if_neg (by omega)]
  have g := hrow 0 b
  refine EvP.round ?_
  simp only [Zag.l1]
  refine EvP.yes (by decide) ?_
  have letters := EvP.up (fun k (row : List Int) a => Zag.l2 k c [0] x 0 row a L N good L 0 0 []) (fun r => r = (L, 0, 0, [List.replicate L.toNat (-1)], 1)) L.toNat (fun a row => row = List.replicate a (-1))
    (fun row hrw => by
      refine EvP.round ?_
      simp only [Zag.l2]
      refine EvP.no (by omega) (EvP.yes (by decide) ?_)
      refine EvP.round ?_
      simp only [Zag.l1]
      refine EvP.no (by rw [w64 (n := 0 + 1) (by omega) (by omega)]; decide) (EvP.no (by decide) ?_)
      have := l11Mask_ev (L := L) (N := N) hg [0] (fun y hy => by rw [List.mem_singleton.1 hy]; exact b) (by decide) [row]
      have e : orN (fun j => ((([0] : List Nat)[j]?).map (Za9 good)).getD false) ([0] : List Nat).length 0 = 0 := by
        show orN _ (0 + 1) 0 = 0
        rw [orN_succ]
        rw [if_neg (by show ¬ Za9 good 0 = true; rw [hgd]; simp)]
        rfl
      rw [e] at this
      rw [hrw] at this ⊢
      exact this)
    (fun a row ha hrw ih => by
      have hrd : rd ([0] : List Int) 0 = ((0 : Nat) : Int) := rfl
      have hx := nx_in hN (s := ((0 : Nat) : Int)) (a := a) (by omega) (by omega) (by omega)
      refine EvP.round ?_
      simp only [Zag.l2]
      rw [hrd, hnx]
      have hrl : row.length = a := by rw [hrw]; simp
      refine EvP.yes (by omega) (EvP.yes (by omega) (EvP.yes (by simp) (EvP.yes (by omega) (EvP.yes (by omega) (EvP.yes (by omega) (EvP.yes (by omega) (EvP.here (l11ClassOf_at hN hc b ha) (EvP.yes (by omega) (EvP.yes h0 (EvP.round ?_))))))))))
      simp only [Zag.j4]
      refine EvP.yes (by trivial) (EvP.yes (by omega) ?_)
      rw [w64s (by omega)]
      exact ih _ (by rw [hrw, ← List.replicate_succ'])  )
  have := letters 0 [] (by omega) rfl
  simpa using this
set_option maxHeartbeats 1000000 in
theorem l11Minimal_ev {L : Int} {N : List (List Int)} {good : List Bool} (hN : Zcm L N) (hn : N.length ≤ 1048575) (hg : good.length = N.length) (hL : 0 ≤ L) (b : L ≤ 1048576) (a : 0 < N.length) :
    EvP (fun k => Zag.f k L N good) (fun r => ∃ qs rows, Zc9 L.toNat (accM L N good 0) (qs, rows) ∧ qs.length ≤ N.length ∧ r = MinR L qs rows) := by
  unfold Zag.f
  refine EvP.bindP (l11Classes_ev hN hn hg hL b) fun c ⟨⟨hc, hcb⟩, H⟩ => ?_
  try dsimp only at H
  rw [w64s (by omega)]
  refine EvP.yes (by omega) (EvP.yes (by omega) ?_)
  have loop := EvP.up (fun k (x : List Int) i => Zag.l0 k c [0] x i L N good L 0 0) (fun r => ∃ qs rows, Zc9 L.toNat (accM L N good 0) (qs, rows) ∧ qs.length ≤ N.length ∧ r = MinR L qs rows) (N.length + 1)
    (fun i x => x.length = N.length + 1 ∧ ∀ j : Nat, j < i → rd x (j : Int) = -1)
    (fun x ⟨h1, h2⟩ => by
      refine EvP.round ?_
      simp only [Zag.l0]
      refine EvP.no (by omega) (EvP.yes (by omega) ?_)
      by_cases h0 : rd c 0 ≥ 0
      · have hb := hcb 0 a
        replace hb : rd c 0 < N.length := hb
        obtain ⟨q, hq, hqn⟩ := nat_of (n := N.length) h0 hb
        refine EvP.yes h0 (EvP.yes h0 (EvP.yes (by omega) (EvP.round ?_)))
        simp only [Zag.j1]
        have d : (0 : Int) ≤ clS c 0 := h0
        obtain ⟨l, rows, g1, g2, g3⟩ := mRun_least (cls := clS c) (s := 0) H a d
        have e0 : NumI N.length c [] x := ⟨h1, fun k hk => h2 k hk⟩
        have e1 := e0.new (y := 0) (k := q) (by omega) hq rfl
        have := l11Minimal_run hN hn hg hL b hc hcb H h0 a _ 0 [0] [] (x.set q 0) l rows g1 ⟨fun x hx => by rw [List.mem_singleton.1 hx]; exact a, fun x hx => by rw [List.mem_singleton.1 hx]; exact d, List.pairwise_singleton _ _⟩ (by simp) rfl e1
        rw [hq, Int.toNat_natCast]
        exact EvP.mono this fun r hr => ⟨_, _, g3, by rw [List.length_map]; exact g2.length_le H, hr⟩
      · refine EvP.no h0 (EvP.round ?_)
        simp only [Zag.j1]
        have hE : emp (accM L N good 0) := (H.dead 0 a).1 (by show rd c ((0 : Nat) : Int) < 0; simpa using h0)
        have hgd : Za9 good 0 = false := hE []
        have := l11Minimal_dead hN hn hg hL b hc (by omega) a hgd x
        refine EvP.mono this fun r hr => ⟨_, _, least_empty _ hE, by simp; omega, ?_⟩
        rw [hr]
        unfold MinR
        rw [if_pos (by simp)]
        unfold maskQ
        simp only [List.length_cons, List.length_nil]
        rw [orN_succ, if_neg (by show ¬ (Za9 good 0 = true); rw [hgd]; simp)]
        rfl)
    (fun i x hi ⟨h1, h2⟩ ih => by
      refine EvP.round ?_
      simp only [Zag.l0]
      refine EvP.yes (by omega) (EvP.yes (by omega) ?_)
      rw [w64s (by omega), Int.toNat_natCast]
      refine ih _ ⟨by simp [h1], fun j hj => ?_⟩
      by_cases e : j = i
      · subst e; exact Zb8 (by omega) _
      · rw [Zdh (fun h => e h.symm)]; exact h2 j (by omega))
  have := loop 0 (List.replicate (N.length + 1) 0) (by omega) ⟨by simp, fun j hj => absurd hj (by omega)⟩
  simpa using this
end Go.Proofs.Ytgindgodfcfgkaa.U
end M4
section M5
namespace Go.Proofs.Ytgindgodfcfgkaa.U
/-! What holds of every least machine. -/
/-- What stands in a row for a language: -1 for no word, or the language's number. -/
def Ent (qs : List Lang) (p : Lang) (t : Int) : Prop := (t = -1 ∧ emp p) ∨ ∃ k : Nat, t = k ∧ qs[k]? = some p ∧ ¬ emp p
theorem Ent.more {qs ext : List Lang} {p : Lang} {t : Int} (h : Ent qs p t) : Ent (qs ++ ext) p t := by
  rcases h with h | ⟨k, h1, h2, h3⟩
  · exact .inl h
  · exact .inr ⟨k, h1, by rw [List.getElem?_append_left (List.getElem?_eq_some_iff.1 h2).1]; exact h2, h3⟩
theorem posOf_some {q : Lang} {l : List Lang} {k : Nat} (h : posOf q l = some k) : l[k]? = some q := by
  unfold posOf at h
  rw [List.findIdx?_eq_some_iff_getElem] at h
  obtain ⟨hk, h1, _⟩ := h
  have h2 : l[k] = q := by simpa using h1
  rw [List.getElem?_eq_getElem hk, h2]
theorem posOf_none {q : Lang} {l : List Lang} (h : posOf q l = none) : q ∉ l := by
  unfold posOf at h
  rw [List.findIdx?_eq_none_iff] at h
  intro hm
  have := h q hm
  simp at this
theorem cStep_ent (q : Lang) (qs : List Lang) (row : List Int) (a : Nat) (hn : qs.Nodup) : ∃ ext t, cStep q (qs, row) a = (qs ++ ext, row ++ [t]) ∧ Ent (qs ++ ext) (der q a) t ∧ (qs ++ ext).Nodup ∧ ∀ p ∈ ext, ¬ emp p := by
  unfold cStep
  by_cases he : emp (der q a)
  · rw [if_pos he]
    exact ⟨[], -1, by simp, .inl ⟨rfl, he⟩, by simpa using hn, by simp⟩
  · rw [if_neg he]
    cases e : posOf (der q a) qs with
    | some k => exact ⟨[], k, by simp, .inr ⟨k, rfl, by simpa using posOf_some e, he⟩, by simpa using hn, by simp⟩
    | none =>
      refine ⟨[der q a], (qs.length : Int), rfl, .inr ⟨qs.length, rfl, by simp, he⟩, ?_, fun p hp => by rw [List.mem_singleton.1 hp]; exact he⟩
      rw [List.nodup_append]
      refine ⟨hn, by simp, fun x hx y hy hxy => ?_⟩
      rw [List.mem_singleton.1 hy] at hxy
      exact posOf_none e (hxy ▸ hx)
theorem cFold_ent (q : Lang) : ∀ (n : Nat) (qs : List Lang), qs.Nodup → ∃ ext row, (List.range n).foldl (cStep q) (qs, []) = (qs ++ ext, row) ∧ row.length = n ∧ (∀ b, b < n → Ent (qs ++ ext) (der q b) (row.getD b 0)) ∧ (qs ++ ext).Nodup ∧ ∀ p ∈ ext, ¬ emp p
  | 0, qs, hn => ⟨[], [], by simp, rfl, fun b hb => absurd hb (by omega), by simpa using hn, by simp⟩
  | n + 1, qs, hn => by
    obtain ⟨ext, row, h1, h2, h3, h4, h5⟩ := cFold_ent q n qs hn
    obtain ⟨a, t, g1, g2, g3, g4⟩ := cStep_ent q (qs ++ ext) row n h4
    refine ⟨ext ++ a, row ++ [t], ?_, by simp [h2], fun b hb => ?_, by rw [← List.append_assoc]; exact g3, fun p hp => ?_⟩
    · rw [List.range_succ, List.foldl_append, h1]
      show cStep q (qs ++ ext, row) n = _
      rw [g1, List.append_assoc]
    · rw [← List.append_assoc]
      by_cases e : b = n
      · subst e
        have : (row ++ [t]).getD b 0 = t := by rw [List.getD_eq_getElem?_getD, List.getElem?_append_right (by omega), h2]; simp
        rw [this]; exact g2
      · have : (row ++ [t]).getD b 0 = row.getD b 0 := by rw [List.getD_eq_getElem?_getD, List.getElem?_append_left (by omega), List.getD_eq_getElem?_getD]
        rw [this]; exact (h3 b (by omega)).more
    · rcases List.mem_append.1 hp with hp | hp
      · exact h5 p hp
      · exact g4 p hp
structure LeastI (L : Nat) (q : Lang) (qs : List Lang) (rows : List (List Int)) : Prop where
  len : rows.length = qs.length
  wid : ∀ row ∈ rows, row.length = L
  ent : ∀ (j : Nat) (p : Lang) (row : List Int), qs[j]? = some p → rows[j]? = some row → ∀ b, b < L → Ent qs (der p b) (row.getD b 0)
  first : qs[0]? = some q
  nodup : qs.Nodup
  alive : ¬ emp q → ∀ p ∈ qs, ¬ emp p
theorem cRun_I {L : Nat} {q : Lang} : ∀ (f i : Nat) (qs : List Lang) (rows : List (List Int)) (r : List Lang × List (List Int)), cRun L f i qs rows = some r → i ≤ qs.length → rows.length = i → (∀ row ∈ rows, row.length = L) →
    (∀ (j : Nat) (p : Lang) (row : List Int), qs[j]? = some p → rows[j]? = some row → ∀ b, b < L → Ent qs (der p b) (row.getD b 0)) → qs[0]? = some q → qs.Nodup → (¬ emp q → ∀ p ∈ qs, ¬ emp p) → LeastI L q r.1 r.2
  | 0, i, qs, rows, r, h, _, _, _, _, _, _, _ => by simp [cRun] at h
  | f + 1, i, qs, rows, r, h, hi, hr, hw, he, hf, hn, hA => by
    unfold cRun at h
    cases e : qs[i]? with
    | none =>
      rw [e] at h
      have h := Option.some.inj h
      subst h
      have := List.getElem?_eq_none_iff.1 e
      exact ⟨by show rows.length = qs.length; omega, hw, he, hf, hn, hA⟩
    | some p =>
      rw [e] at h
      obtain ⟨ext, row, h1, h2, h3, h4, h5⟩ := cFold_ent p L qs hn
      have hc : cRow L p qs = (qs ++ ext, row) := h1
      replace h : cRun L f (i + 1) (cRow L p qs).1 (rows ++ [(cRow L p qs).2]) = some r := h
      rw [hc] at h
      have hlt := (List.getElem?_eq_some_iff.1 e).1
      refine cRun_I f (i + 1) _ _ r h (by simp; omega) (by simp [hr]) (fun x hx => ?_) (fun j p' row' hj hrow b hb => ?_) ?_ h4 (fun hq x hx => ?_)
      · rcases List.mem_append.1 hx with hx | hx
        · exact hw x hx
        · rw [List.mem_singleton.1 hx]; exact h2
      · by_cases hji : j < i
        · rw [List.getElem?_append_left (by omega)] at hrow
          rw [List.getElem?_append_left (by omega)] at hj
          exact (he j p' row' hj hrow b hb).more
        · have hl := (List.getElem?_eq_some_iff.1 hrow).1
          simp only [List.length_append, List.length_cons, List.length_nil] at hl
          have : j = i := by omega
          subst this
          rw [List.getElem?_append_right (by omega), hr] at hrow
          simp only [Nat.sub_self, List.getElem?_cons_zero, Option.some.injEq] at hrow
          rw [List.getElem?_append_left hlt, e] at hj
          have hj := Option.some.inj hj
          subst hj; subst hrow
          exact h3 b hb
      · rw [List.getElem?_append_left (by have := (List.getElem?_eq_some_iff.1 hf).1; omega)]; exact hf
      · rcases List.mem_append.1 hx with hx | hx
        · exact hA hq x hx
        · exact h5 x hx
theorem Zc9.facts {L : Nat} {q : Lang} {qs : List Lang} {rows : List (List Int)} (h : Zc9 L q (qs, rows)) : LeastI L q qs rows := by
  obtain ⟨f, h⟩ := h
  exact cRun_I f 0 [q] [] _ h (by simp) rfl (by simp) (fun j p row _ hr => by simp at hr) rfl (by simp) (fun hq p hp => by rw [List.mem_singleton.1 hp]; exact hq)
end Go.Proofs.Ytgindgodfcfgkaa.U
end M5
section M6
namespace Go.Proofs.Ytgindgodfcfgkaa.U
open Go.RowKit Go.Proofs.Ytgindgodfcfgkaa.P Go.Proofs.YtgindgodfcfgkaaW.PrintWords Go.Proofs.YtgindgodfcfgkaaW.PrintLast
set_option linter.unusedVariables false
/-! Both least machines are one. -/
theorem free_acc {L S F : Int} {N : List (List Int)} (hN : Zcm L N) (hL : 0 ≤ L) (hS : 0 ≤ S) (hSn : S < N.length) : ∀ (w : List Nat) (s : Nat), s < N.length → accM L (freeN L S N) (freeG S F N) (turn S s).toNat w = accM L N (finL F N.length) s w
  | [], s, hs => by
    have ht := turn_in (n := N.length) (s := (s : Int)) hS hSn (by omega) (by omega)
    show rdOf false (freeG S F N) (((turn S s).toNat : Nat) : Int) = rdOf false (finL F N.length) (s : Int)
    rw [Int.toNat_of_nonneg ht.1, freeG_at ht.1 ht.2, turn_turn, finL_at (by omega) (by omega)]
  | a :: w, s, hs => by
    have ht := turn_in (n := N.length) (s := (s : Int)) hS hSn (by omega) (by omega)
    unfold accM accW
    by_cases ha : a < L.toNat
    · rw [decide_eq_true ha]
      simp only [Bool.true_and]
      have hx := nx_in hN (s := s) (a := a) (by omega) (by omega) (by omega)
      have e : nx (freeN L S N) (((turn S s).toNat : Nat) : Int) (a : Int) = turn S (nx N s a) := by
        rw [Int.toNat_of_nonneg ht.1, freeN_nx ht.1 ht.2 (by omega) (by omega), turn_turn]
      by_cases hneg : nx N s a < 0
      · rw [nxO_no hneg, nxO_no (by rw [e, turn_neg hS hneg]; exact hneg)]
      · have b := turn_in (n := N.length) (s := nx N s a) hS hSn (by omega) hx.2
        obtain ⟨t, et, htn⟩ := nat_of (by omega : 0 ≤ nx N s a) hx.2
        rw [nxO_of (by omega : 0 ≤ nx N s a), nxO_of (by rw [e]; exact b.1), e, et]
        exact free_acc hN hL hS hSn w t htn
    · rw [decide_eq_false ha]
      simp
theorem free_start {L S F : Int} {N : List (List Int)} (hN : Zcm L N) (hL : 0 ≤ L) (hS : 0 ≤ S) (hSn : S < N.length) : accM L (freeN L S N) (freeG S F N) 0 = accM L N (finL F N.length) S.toNat := by
  funext w
  obtain ⟨s, rfl, hs⟩ := nat_of hS hSn
  rw [Int.toNat_natCast, ← free_acc hN hL (by omega) (by omega) w s hs]
  have : (turn (s : Int) (s : Int)).toNat = 0 := by unfold turn; split <;> omega
  rw [this]
theorem freeG_length (S F : Int) (N : List (List Int)) : (freeG S F N).length = N.length := by simp [freeG]
theorem small_both {L S F : Int} {N : List (List Int)} (h : isAut L S F N = true) :
    ∃ qs rows, Zc9 L.toNat (accM L N (finL F N.length) S.toNat) (qs, rows) ∧ qs.length ≤ N.length ∧ Ev (fun k => Zaj.f k L S (finL F N.length) N) (L, 0, qs.map (fun q => q []), rows) ∧ Ev (fun k => Zdb.f k L S F N) (L, 0, maskQ qs, rows) := by
  have ok := isAut_ok h
  have hN := ok.rows; have hL := ok.l0; have a := ok.l8; have b := ok.n16; have hS := ok.s0; have hSn := ok.sn; have c := ok.n1
  obtain ⟨r, h1, qs, rows, h2, h3, h4⟩ := minimal_ev (fin := finL F N.length) hN (by omega) (by simp [finL]) hL a hS hSn
  subst h3
  have hfr := free_rows hN hL hS hSn
  obtain ⟨r', g1, qs', rows', g2, g3, g4⟩ := l11Minimal_ev (good := freeG S F N) hfr (by rw [Zdl]; omega) (by rw [freeG_length, Zdl]) hL (by omega) (by rw [Zdl]; omega)
  rw [free_start hN hL hS hSn] at g2
  have e := g2.unique h2
  obtain ⟨rfl, rfl⟩ := Prod.mk.inj e
  subst g4
  refine ⟨qs', rows', h2, h4, h1, ?_⟩
  unfold Zdb.f
  refine Ev.bind (l11Free_ev hN (by omega) hL (by omega) hS hSn) (Ev.bind g1 ?_)
  unfold MinR
  rw [if_pos (by omega)]
  exact Ev.now _
end Go.Proofs.Ytgindgodfcfgkaa.U
end M6
section M7
namespace Go.Proofs.Ytgindgodfcfgkaa.U
open Go.RowKit Go.Proofs.Ytgindgodfcfgkaa.P Go.Proofs.YtgindgodfcfgkaaW.PrintWords Go.Proofs.YtgindgodfcfgkaaW.PrintLast
set_option linter.unusedVariables false
/-! The least automaton of a machine, as the program hands it out. -/
def AutR (L : Int) (qs : List Lang) (rows : List (List Int)) : Int × Int × Int × List (List Int) × Int := if qs.length ≤ 16 then (L, 0, maskQ qs, rows, 0) else (0, 0, 0, [], 3)
theorem autoMask_ev {L : Int} {rows : List (List Int)} (qs : List Lang) (b : qs.length ≤ 16) :
    Ev (fun k => Zaz.l0 k (qs.map fun q => q []) ((qs.map fun q => q []).length : Int) 0 L 0 0 rows) (L, 0, maskQ qs, rows, 0) := by
  have hl : (qs.map fun q => q []).length = qs.length := by simp
  have key := Ev.up (fun k (m : Int) i => Zaz.l0 k (qs.map fun q => q []) ((qs.map fun q => q []).length : Int) i L 0 m rows) qs.length (fun _ _ => (L, 0, maskQ qs, rows, 0))
    (fun i m => m = ((orN (fun j => ((qs[j]?).map fun q => q []).getD false) i 0 : Nat) : Int))
    (fun m hm => by
      refine Ev.round ?_
      simp only [Zaz.l0]
      refine Ev.no (by omega) ?_
      rw [hm]
      exact Ev.now _)
    (fun i m hi hm ih => by
      refine Ev.round ?_
      simp only [Zaz.l0]
      have e := List.getElem?_eq_getElem hi
      have a : rdOf false (qs.map fun q => q []) (i : Int) = qs[i] [] := by rw [rdOf_lt (by omega)]; simp
      rw [a]
      refine Ev.yes (by omega) (Ev.yes (by omega) (Ev.yes (by omega) ?_))
      rw [w64s (by omega)]
      have hlt : orN (fun j => ((qs[j]?).map fun q => q []).getD false) i 0 < 2 ^ 63 := orN_lt _ _ _ 63 (by omega) (by decide)
      have hp : (2 : Nat) ^ i < 2 ^ 63 := Nat.pow_lt_pow_right (by decide) (by omega)
      cases hv : qs[i] []
      · refine Ev.no (by simp) (ih m ?_)
        rw [hm, orN_succ, if_neg (by rw [e]; simp [hv])]
      · refine Ev.yes rfl (Ev.here (show Zdf.f (i : Int) = some ((2 ^ i : Nat) : Int) by unfold Zdf.f; rw [if_pos (by omega), shl1 (by omega)]) (ih _ ?_))
        rw [hm, bor hlt hp, orN_succ, if_pos (by rw [e]; simp [hv])])
  have := key 0 0 (by omega) rfl
  simpa using this
theorem auto_of {L S : Int} {N : List (List Int)} {fin : List Bool} {qs : List Lang} {rows : List (List Int)} (h : Ev (fun k => Zaj.f k L S fin N) (L, 0, qs.map (fun q => q []), rows)) (hl : rows.length = qs.length) :
    Ev (fun k => Zaz.f k L S fin N) (AutR L qs rows) := by
  unfold Zaz.f AutR
  refine Ev.bind h ?_
  by_cases a : qs.length ≤ 16
  · rw [if_pos a]
    exact Ev.no (by dsimp only; omega) (autoMask_ev qs a)
  · rw [if_neg a]
    exact Ev.yes (by dsimp only; omega) (Ev.now _)
theorem auto_ev {L S : Int} {N : List (List Int)} {fin : List Bool} (hN : Zcm L N) (hn : N.length ≤ 65535) (hf : fin.length = N.length) (hL : 0 ≤ L) (a : L ≤ 8) (hS : 0 ≤ S) (hSn : S < N.length) :
    ∃ qs rows, Zc9 L.toNat (accM L N fin S.toNat) (qs, rows) ∧ qs.length ≤ N.length ∧ Ev (fun k => Zaz.f k L S fin N) (AutR L qs rows) := by
  obtain ⟨r, h1, qs, rows, h2, rfl, h4⟩ := minimal_ev (fin := fin) hN hn hf hL a hS hSn
  exact ⟨qs, rows, h2, h4, auto_of h1 h2.facts.len⟩
/-- A least machine's rows are few and short. -/
theorem least_sz {L : Int} {q : Lang} {qs : List Lang} {rows : List (List Int)} (hL : 0 ≤ L) (a : L ≤ 8) (h : Zc9 L.toNat q (qs, rows)) (b : qs.length ≤ 16) : sz2 rows ≤ 1048576 := by
  have I := h.facts
  have hl := I.len
  have key : ∀ l : List (List Int), (∀ x ∈ l, x.length ≤ 8) → sz2 l ≤ 9 * l.length := by
    intro l
    induction l with
    | nil => intro _; simp [sz2]
    | cons x l ih =>
      intro hx
      have h1 := ih (fun y hy => hx y (by simp [hy]))
      have h2 := hx x (by simp)
      simp only [sz2, List.map_cons, List.sum_cons, List.length_cons] at h1 ⊢
      omega
  have := key rows (fun x hx => by have := I.wid x hx; omega)
  omega
theorem autR_sz {L : Int} {q : Lang} {qs : List Lang} {rows : List (List Int)} (hL : 0 ≤ L) (a : L ≤ 8) (h : Zc9 L.toNat q (qs, rows)) : sz2 (AutR L qs rows).2.2.2.1 ≤ 1048576 := by
  unfold AutR
  split
  · exact least_sz hL a h (by assumption)
  · simp [sz2]
end Go.Proofs.Ytgindgodfcfgkaa.U
end M7
section M8
namespace Go.Proofs.Ytgindgodfcfgkaa.U
open Go.RowKit Go.Proofs.Ytgindgodfcfgkaa.P Go.Proofs.YtgindgodfcfgkaaW.PrintWords Go.Proofs.YtgindgodfcfgkaaW.PrintLast
set_option linter.unusedVariables false
/-! Marking a list with numbers, and finding the numbers again. -/
/-- a, a+1, .., n numbers. -/
def upL (a n : Nat) : List Int := (List.range n).map fun i => ((a + i : Nat) : Int)
theorem upL_length (a n : Nat) : (upL a n).length = n := by simp [upL]
theorem upL_get (a n i : Nat) (h : i < (upL a n).length) : (upL a n)[i] = ((a + i : Nat) : Int) := by simp [upL]
theorem markS (l : List Int) (a : Nat) (ha : a + l.length ≤ 1152921504606846976) : Ev (fun k => Zbh.f k l (a : Int)) (((a + l.length : Nat) : Int), upL a l.length) := by
  have key := Ev.up (fun k (s : List Int × Int) i => Zbh.l0 k s.1 s.2 i) l.length (fun _ _ => (((a + l.length : Nat) : Int), upL a l.length))
    (fun i s => s.2 = ((a + i : Nat) : Int) ∧ s.1.length = l.length ∧ ∀ j, j < i → s.1[j]? = some ((a + j : Nat) : Int))
    (fun s ⟨h1, h2, h3⟩ => by
      refine Ev.round ?_
      simp only [Zbh.l0]
      refine Ev.no (by omega) ?_
      have : s.1 = upL a l.length := List.ext_getElem? fun j => by
        by_cases hj : j < l.length
        · rw [h3 j hj, List.getElem?_eq_getElem (by rw [upL_length]; exact hj), upL_get]
        · rw [List.getElem?_eq_none (by omega), List.getElem?_eq_none (by rw [upL_length]; omega)]
      rw [this, h1]
      exact Ev.now _)
    (fun i s hi ⟨h1, h2, h3⟩ ih => by
      refine Ev.round ?_
      simp only [Zbh.l0]
      refine Ev.yes (by omega) (Ev.yes (by omega) ?_)
      rw [h1, w64s (by omega), w64s (by omega)]
      refine ih (s.1.set (i : Int).toNat ((a + i : Nat) : Int), ((a + i + 1 : Nat) : Int)) ⟨rfl, by simp [h2], fun j hj => ?_⟩
      rw [Int.toNat_natCast]
      by_cases e : j = i
      · subst e
        exact List.getElem?_set_self (by omega)
      · rw [List.getElem?_set_ne (by omega)]
        exact h3 j (by omega))
  have := key 0 (l, (a : Int)) (by omega) ⟨by simp, rfl, fun j hj => absurd hj (by omega)⟩
  unfold Zbh.f
  simpa using this
theorem heldS (n a : Nat) (ha : a + n ≤ 1152921504606846976) : Ev (fun k => Zbk.f k (upL a n) (a : Int)) (((a + n : Nat) : Int)) := by
  have hl := upL_length a n
  have key := Ev.up (fun k (s : Int) i => Zbk.l0 k (upL a n) s i) n (fun _ _ => (((a + n : Nat) : Int))) (fun i s => s = ((a + i : Nat) : Int))
    (fun s h1 => by
      refine Ev.round ?_
      simp only [Zbk.l0]
      refine Ev.no (by omega) ?_
      rw [h1]
      exact Ev.now _)
    (fun i s hi h1 ih => by
      refine Ev.round ?_
      simp only [Zbk.l0]
      refine Ev.yes (by omega) (Ev.yes (by omega) ?_)
      rw [rd_lt (by omega), upL_get, h1]
      refine Ev.yes rfl ?_
      rw [w64s (by omega), w64s (by omega)]
      exact ih _ rfl)
  have := key 0 (a : Int) (by omega) (by simp)
  unfold Zbk.f
  simpa using this
theorem eqS' {a b : List Int} (h : a = b) (hn : a.length ≤ 9223372036854775806) : Ev (fun k => Zbc.f k a b) true := by
  have := eqS a b hn
  rw [decide_eq_true h] at this
  exact this
end Go.Proofs.Ytgindgodfcfgkaa.U
end M8
section M9
namespace Go.Proofs.Ytgindgodfcfgkaa.U
open Go.RowKit Go.Proofs.Ytgindgodfcfgkaa.P Go.Proofs.YtgindgodfcfgkaaW.PrintWords Go.Proofs.YtgindgodfcfgkaaW.PrintLast
set_option linter.unusedVariables false
/-! Marking rows of rows. -/
def upR : Nat → List (List Int) → List (List Int)
  | _, [] => []
  | a, r :: rs => upL a r.length :: upR (a + r.length) rs
def tot (l : List (List Int)) : Nat := (l.map List.length).sum
theorem markSS_loop : ∀ (rest done : List (List Int)) (a : Nat), a + tot rest ≤ 1152921504606846976 → (done ++ rest).length ≤ 1048576 →
    Ev (fun k => Zbg.l0 k (done ++ rest) (a : Int) ((done.length : Nat) : Int)) (((a + tot rest : Nat) : Int), done ++ upR a rest)
  | [], done, a, ha, hl => by
    refine Ev.round ?_
    simp only [Zbg.l0]
    refine Ev.no (by simp) ?_
    simp only [upR, tot, List.map_nil, List.sum_nil, Nat.add_zero]
    exact Ev.now _
  | r :: rest, done, a, ha, hl => by
    have ht : tot (r :: rest) = r.length + tot rest := by simp [tot]
    rw [ht] at ha ⊢
    refine Ev.round ?_
    simp only [Zbg.l0]
    have hi : done.length < (done ++ r :: rest).length := by simp
    have er : rdOf ([] : List Int) (done ++ r :: rest) ((done.length : Nat) : Int) = r := by
      rw [rdOf_lt hi]; simp
    rw [er, w64s (by omega)]
    refine Ev.yes (by omega) (Ev.yes (by omega) (Ev.bind (markS r a (by omega)) ?_))
    have es : (done ++ r :: rest).set (((done.length : Nat) : Int)).toNat (upL a r.length) = (done ++ [upL a r.length]) ++ rest := by
      rw [Int.toNat_natCast, List.set_append_right _ _ (Nat.le_refl _), Nat.sub_self, List.set_cons_zero]
      simp
    have h := markSS_loop rest (done ++ [upL a r.length]) (a + r.length) (by omega) (by simpa using hl)
    dsimp only
    rw [es]
    have el : (((done ++ [upL a r.length]).length : Nat) : Int) = ((done.length + 1 : Nat) : Int) := by simp
    rw [el] at h
    have e2 : (done ++ [upL a r.length]) ++ upR (a + r.length) rest = done ++ upR a (r :: rest) := by simp [upR]
    rw [e2, Nat.add_assoc] at h
    exact h
theorem markSS (l : List (List Int)) (a : Nat) (ha : a + tot l ≤ 1152921504606846976) (hl : l.length ≤ 1048576) : Ev (fun k => Zbg.f k l (a : Int)) (((a + tot l : Nat) : Int), upR a l) := by
  unfold Zbg.f
  exact markSS_loop l [] a ha hl
theorem tot_le (l : List (List Int)) : tot l ≤ sz2 l := by unfold tot sz2; omega
theorem markAut (x y z : Int) (l : List (List Int)) (a : Nat) (ha : a ≤ 1048577) (hl : sz2 l ≤ 1048576) : Ev (fun k => Zcf.f k x y z l (a : Int)) (((a + tot l : Nat) : Int), upR a l) := by
  unfold Zcf.f
  have := tot_le l
  exact markSS l a (by omega) (by unfold sz2 at hl; omega)
end Go.Proofs.Ytgindgodfcfgkaa.U
end M9
section M10
namespace Go.Proofs.Ytgindgodfcfgkaa.U
open Go.RowKit Go.Proofs.Ytgindgodfcfgkaa.P Go.Proofs.YtgindgodfcfgkaaW.PrintWords Go.Proofs.YtgindgodfcfgkaaW.PrintLast
set_option linter.unusedVariables false
/-! Finding the numbers again in rows of rows. -/
theorem heldSS_loop : ∀ (rest done : List (List Int)) (a : Nat), a + tot rest ≤ 1152921504606846976 → (done ++ rest).length ≤ 1048576 →
    Ev (fun k => Zbi.l0 k (done ++ upR a rest) (a : Int) ((done.length : Nat) : Int)) (((a + tot rest : Nat) : Int))
  | [], done, a, ha, hl => by
    refine Ev.round ?_
    simp only [Zbi.l0]
    refine Ev.no (by simp [upR]) ?_
    simp only [tot, List.map_nil, List.sum_nil, Nat.add_zero]
    exact Ev.now _
  | r :: rest, done, a, ha, hl => by
    have ht : tot (r :: rest) = r.length + tot rest := by simp [tot]
    rw [ht] at ha ⊢
    refine Ev.round ?_
    simp only [Zbi.l0, upR]
    have hi : done.length < (done ++ upL a r.length :: upR (a + r.length) rest).length := by simp
    have er : Zah (done ++ upL a r.length :: upR (a + r.length) rest) ((done.length : Nat) : Int) = upL a r.length := by
      show (done ++ upL a r.length :: upR (a + r.length) rest).getD done.length [] = _
      rw [List.getD_eq_getElem?_getD, List.getElem?_append_right (Nat.le_refl _)]
      simp
    rw [er, w64s (by simp at hl; omega)]
    refine Ev.yes (by omega) (Ev.yes (by omega) (Ev.bind (heldS r.length a (by omega)) (Ev.no (by omega) ?_)))
    have h := heldSS_loop rest (done ++ [upL a r.length]) (a + r.length) (by omega) (by simpa using hl)
    have el : (((done ++ [upL a r.length]).length : Nat) : Int) = ((done.length + 1 : Nat) : Int) := by simp
    rw [el, List.append_assoc, Nat.add_assoc] at h
    exact h
theorem heldSS (l : List (List Int)) (a : Nat) (ha : a + tot l ≤ 1152921504606846976) (hl : l.length ≤ 1048576) : Ev (fun k => Zbi.f k (upR a l) (a : Int)) (((a + tot l : Nat) : Int)) := by
  unfold Zbi.f
  exact heldSS_loop l [] a ha hl
theorem heldAut (x y z : Int) (l : List (List Int)) (hl : sz2 l ≤ 1048576) : Ev (fun k => Zb6.f k x y z (upR 1 l) 1) (((1 + tot l : Nat) : Int)) := by
  unfold Zb6.f
  have := tot_le l
  exact Ev.bind (heldSS l 1 (by omega) (by unfold sz2 at hl; omega)) (Ev.no (by omega) (Ev.now _))
end Go.Proofs.Ytgindgodfcfgkaa.U
end M10
section M11
namespace Go.Proofs.Ytgindgodfcfgkaa.U
open Go.RowKit Go.Proofs.Ytgindgodfcfgkaa.P Go.Proofs.YtgindgodfcfgkaaW.PrintWords Go.Proofs.YtgindgodfcfgkaaW.PrintLast
set_option linter.unusedVariables false
/-! The least machine's own languages. -/
theorem cStep_all {P : Lang → Prop} (hP : ∀ p b, P p → P (der p b)) {q : Lang} (hq : P q) (qs : List Lang) (row : List Int) (a : Nat) (h : ∀ p ∈ qs, P p) : ∀ p ∈ (cStep q (qs, row) a).1, P p := by
  unfold cStep
  split
  · exact h
  · split
    · exact h
    · intro p hp
      rcases List.mem_append.1 hp with hp | hp
      · exact h p hp
      · rw [List.mem_singleton.1 hp]; exact hP q a hq
theorem cFold_all {P : Lang → Prop} (hP : ∀ p b, P p → P (der p b)) {q : Lang} (hq : P q) : ∀ (us : List Nat) (st : List Lang × List Int), (∀ p ∈ st.1, P p) → ∀ p ∈ (us.foldl (cStep q) st).1, P p
  | [], _, h => h
  | a :: us, st, h => cFold_all hP hq us _ (cStep_all hP hq st.1 st.2 a h)
theorem cRun_all {L : Nat} {P : Lang → Prop} (hP : ∀ p b, P p → P (der p b)) : ∀ (f i : Nat) (qs : List Lang) (rows : List (List Int)) (r : List Lang × List (List Int)), cRun L f i qs rows = some r → (∀ p ∈ qs, P p) → ∀ p ∈ r.1, P p
  | 0, i, qs, rows, r, h, _ => by simp [cRun] at h
  | f + 1, i, qs, rows, r, h, hq => by
    unfold cRun at h
    cases e : qs[i]? with
    | none =>
      rw [e] at h
      have h := Option.some.inj h
      subst h
      exact hq
    | some p =>
      rw [e] at h
      exact cRun_all hP f _ _ _ r h (cFold_all hP (hq p (List.mem_of_getElem? e)) _ _ hq)
/-- No word with another letter. -/
def Lt (L : Nat) (q : Lang) : Prop := ∀ w, (∃ a ∈ w, L ≤ a) → q w = false
theorem Lt.der {L : Nat} {q : Lang} (h : Lt L q) (b : Nat) : Lt L (der q b) := fun w ⟨a, ha, hl⟩ => h (b :: w) ⟨a, by simp [ha], hl⟩
theorem Zc9.lt {L : Nat} {q : Lang} {qs : List Lang} {rows : List (List Int)} (h : Zc9 L q (qs, rows)) (hq : Lt L q) : ∀ p ∈ qs, Lt L p := by
  obtain ⟨f, h⟩ := h
  exact cRun_all (P := Lt L) (fun p b hp => hp.der b) f 0 [q] [] _ h (fun p hp => by rw [List.mem_singleton.1 hp]; exact hq)
theorem nx_row {rows : List (List Int)} {j : Nat} {row : List Int} (h : rows[j]? = some row) (b : Nat) : nx rows (j : Int) (b : Int) = row.getD b 0 := by
  unfold nx
  rw [if_neg (by omega)]
  have e : Zah rows (j : Int) = row := by
    show rows.getD j [] = row
    rw [List.getD_eq_getElem?_getD, h]; rfl
  rw [e]
  rfl
theorem isAut_mk {L S F : Int} {N : List (List Int)} (a : AutOK L S F N) : isAut L S F N = true := by
  unfold isAut inRB
  have h1 := a.l0; have h2 := a.l8; have h3 := a.n1; have h4 := a.n16; have h5 := a.s0; have h6 := a.sn
  simp only [Bool.and_eq_true, decide_eq_true_eq, Bool.not_eq_true', List.any_eq_false]
  refine ⟨⟨h1, h2⟩, ⟨by omega, by omega⟩, ⟨h5, by omega⟩, a.mask, fun row hr => ?_⟩
  have h7 := a.rows row hr
  unfold badRow
  simp only [Bool.or_eq_true, Bool.not_eq_true', decide_eq_false_iff_not, not_or, Decidable.not_not, Bool.not_eq_false, List.all_eq_true, Bool.and_eq_true, decide_eq_true_eq]
  exact ⟨h7.1, fun t ht => ⟨(h7.2 t ht).1, by have := (h7.2 t ht).2; omega⟩⟩
end Go.Proofs.Ytgindgodfcfgkaa.U
end M11
