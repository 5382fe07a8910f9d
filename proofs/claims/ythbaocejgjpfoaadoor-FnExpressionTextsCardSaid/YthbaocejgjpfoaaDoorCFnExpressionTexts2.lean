import Derived.ArgAppend
import Derived.Below
import Derived.BigQuiet
import Derived.Deep.AppendLies
import Derived.Deep.CutBlock
import Derived.Deep.DeepCutAuto
import Derived.Deep.Draws
import Derived.Deep.LoopGhost
import Derived.Deep.OwnRows
import Derived.Deep.QuietTactic
import Derived.Deep.RegionHeld3
import Derived.KernelRfl
import Derived.Laws.BitsLemmas
import Derived.Laws.BytesArg
import Derived.Laws.IdiomCopy
import Derived.Laws.MakeOwn
import Derived.Laws.OwnMore
import Derived.Laws.Rows
import Derived.Laws.Slices
import Derived.Laws.StructEq
import Derived.Lib.AppendStr
import Derived.Lib.ConvBytes
import Derived.Lib.SliceRun
import Derived.Maps.AppendAt
import Derived.OrdersHeld
import Derived.OwnWalk
import Derived.RowKit
import Derived.RowKit3
import Derived.Shelf.Abstract
import Derived.Shelf.Spec.TrailingZeros
import Derived.Tactics
import Derived.Test.YthbaocejgjpfoaaDoorProg
import Derived.WalkKit
import Derived.WideLaws
import Derived.Test.YthbaocejgjpfoaaDoorCFnExpressionTexts9
import Derived.Test.YthbaocejgjpfoaaDoorCFnExpressionTexts10
import Derived.Test.YthbaocejgjpfoaaDoorCFnExpressionTexts13
section M0
namespace Go.Proofs.YthbaocejgjpfoaaDoor.U
open Go.RowKit Go.Proofs.YthbaocejgjpfoaaDoor.P Go.Proofs.YthbaocejgjpfoaaDoorW.PrintWords Go.Proofs.YthbaocejgjpfoaaDoorW.PrintLast Go.Proofs.YthbaocejgjpfoaaDoorW.PrintMore
set_option linter.unusedVariables false
/-! Draws: what a draw gives is in its bounds, and no draw fails. -/
def Bytes (s : List Int) : Prop := s.length ≤ 4096 ∧ ∀ x ∈ s, 0 ≤ x ∧ x < 256
def Okd (s : List Int) (p : Int) : Prop := 0 ≤ p ∧ p ≤ s.length
theorem u64_bounds (x : Int) : 0 ≤ IntKind.u64.wrap x ∧ IntKind.u64.wrap x < 18446744073709551616 := by
  show 0 ≤ x % 18446744073709551616 ∧ x % 18446744073709551616 < 18446744073709551616
  omega
theorem u64i' {n : Int} (h0 : 0 ≤ n) (h1 : n < 2 ^ 64) : IntKind.u64.wrap n = n := by
  show n % 18446744073709551616 = n
  omega
theorem mix_bounds (x : Int) : 0 ≤ wrap64 (bits .and .u64 (IntKind.u64.wrap x / 8589934592) 16777215) ∧ wrap64 (bits .and .u64 (IntKind.u64.wrap x / 8589934592) 16777215) ≤ 16777215 := by
  obtain ⟨h0, h1⟩ := u64_bounds x
  obtain ⟨a, ha⟩ : ∃ a : Nat, IntKind.u64.wrap x / 8589934592 = (a : Int) := ⟨(IntKind.u64.wrap x / 8589934592).toNat, by omega⟩
  rw [ha]
  have hb := (bits_nat .u64 64 (by decide) (fun n h0 h1 => u64i' h0 h1) a 16777215 (by omega) (by decide)).1
  have e : ((16777215 : Nat) : Int) = 16777215 := rfl
  rw [e] at hb
  rw [hb]
  have := Nat.and_le_right (n := a) (m := 16777215)
  rw [w64 (by omega) (by omega)]
  omega
theorem next_ev {s : List Int} (hs : Bytes s) {p : Int} (r n : Int) (hp : Okd s p) :
    ∃ v p' r', spec_l01Next.f s p r n = some (v, p', r') ∧ Okd s p' ∧ (n < 1 → v = 0) ∧ (1 ≤ n → 0 ≤ v ∧ v < n) := by
  unfold spec_l01Next.f
  by_cases h1 : n < 1
  · rw [if_pos h1]
    exact ⟨0, p, r, rfl, hp, fun _ => rfl, fun h => absurd h1 (by omega)⟩
  rw [if_neg h1]
  have hm := mix_bounds (IntKind.u64.wrap (r * 6364136223846793005) + 1442695040888963407)
  by_cases h2 : p < (s.length : Int)
  · rw [if_pos h2, if_pos hp.1, if_neg (by omega)]
    have hr : 0 ≤ rd s p ∧ rd s p < 256 := by
      obtain ⟨i, rfl⟩ : ∃ i : Nat, p = (i : Int) := ⟨p.toNat, by have := hp.1; omega⟩
      rw [rd_lt (by omega)]
      exact hs.2 _ (List.getElem_mem _)
    have hl := hs.1
    have hp0 := hp.1
    refine ⟨_, _, _, rfl, ⟨?_, ?_⟩, fun h => absurd h h1, fun _ => ⟨?_, ?_⟩⟩
    · rw [w64 (by omega) (by omega)]; omega
    · rw [w64 (by omega) (by omega)]; omega
    · rw [w64 (n := rd s p) (by omega) (by omega), w64 (by omega) (by omega)]
      exact Int.tmod_nonneg _ (by omega)
    · exact Int.tmod_lt_of_pos _ (by omega)
  · rw [if_neg h2, if_neg (by omega)]
    exact ⟨_, _, _, rfl, hp, fun h => absurd h h1, fun _ => ⟨Int.tmod_nonneg _ hm.1, Int.tmod_lt_of_pos _ (by omega)⟩⟩
theorem from_ev {s : List Int} (hs : Bytes s) : EvP (fun k => spec_l01From.f k s) (fun q => q.1 = s ∧ q.2.1 = 0) := by
  have hl := hs.1
  unfold spec_l01From.f
  have key := EvP.up (fun k (x : Int) i => spec_l01From.l0 k s i s 0 x) (fun q => q.1 = s ∧ q.2.1 = 0) s.length (fun _ _ => True)
    (fun x _ => by
      refine EvP.round ?_
      simp only [spec_l01From.l0]
      exact EvP.no (by omega) (EvP.ret ⟨rfl, rfl⟩))
    (fun i x hi _ ih => by
      refine EvP.round ?_
      simp only [spec_l01From.l0]
      refine EvP.yes (by omega) (EvP.yes (by omega) (EvP.yes (by omega) ?_))
      rw [w64s (by omega)]
      exact ih _ trivial)
  exact key 0 _ (by omega) trivial
theorem pick_ev {s : List Int} (hs : Bytes s) {p : Int} (r : Int) (l : List Int) (h0 : 0 < l.length) (hp : Okd s p) :
    ∃ v p' r', spec_l01Pick.f s p r l = some (v, p', r') ∧ Okd s p' ∧ v ∈ l := by
  unfold spec_l01Pick.f
  obtain ⟨v, p', r', e, hp', _, h⟩ := next_ev hs r (l.length : Int) hp
  obtain ⟨h1, h2⟩ := h (by omega)
  rw [e]
  simp only [Option.bind_some]
  rw [if_pos h1, if_pos h2]
  refine ⟨_, _, _, rfl, hp', ?_⟩
  obtain ⟨i, rfl⟩ : ∃ i : Nat, v = (i : Int) := ⟨v.toNat, by omega⟩
  rw [rd_lt (by omega)]
  exact List.getElem_mem _
theorem free_ev (n : Nat) (hn : n ≤ 62) : EvP (fun k => spec_l02Free.f k (n : Int)) (fun q => q.1 = (n : Int) ∧ q.2.length = n) := by
  unfold spec_l02Free.f
  have key := EvP.up (fun k (l : List Int) i => spec_l02Free.l0 k (n : Int) i (n : Int) l) (fun q => q.1 = (n : Int) ∧ q.2.length = n) n (fun i l => l.length = i)
    (fun l h => by
      refine EvP.round ?_
      simp only [spec_l02Free.l0]
      exact EvP.no (by omega) (EvP.ret ⟨rfl, h⟩))
    (fun i l hi h ih => by
      refine EvP.round ?_
      simp only [spec_l02Free.l0]
      refine EvP.yes (by omega) (EvP.here (spOneI (by omega)) (EvP.yes (by omega) ?_))
      rw [w64s (by omega)]
      exact ih _ (by simp [h]))
  exact key 0 [] (by omega) rfl
theorem join_ev (n : Int) (d : List Int) {a b : Nat} (ha : a < d.length) (hb : b < d.length) (hd : d.length ≤ 62) :
    ∃ d', spec_l02Join.f n d (a : Int) (b : Int) = some d' ∧ d'.length = d.length := by
  unfold spec_l02Join.f
  rw [if_pos (by omega), if_pos (by omega), spOneI (by omega)]
  simp only [Option.bind_some]
  rw [if_pos (by omega), if_pos (by omega), spOneI (by omega)]
  simp only [Option.bind_some]
  exact ⟨_, rfl, by simp⟩
def AlQ (s : List Int) (n : Nat) (q : Int × List Int × Int × Int) : Prop := q.1 = (n : Int) ∧ q.2.1.length = n ∧ Okd s q.2.2.1
theorem drawRows_ev {s : List Int} (hs : Bytes s) (n : Nat) (hn : n ≤ 62) (c : Int) (hc : 1 ≤ c) : ∀ (m i : Nat), i + m = n → ∀ (p r : Int) (d : List Int), Okd s p → d.length = n →
    EvP (fun k => spec_l02Draw.l0 k (n : Int) c (i : Int) s p r (n : Int) d) (AlQ s n)
  | 0, i, hm, p, r, d, hp, hd => by
    refine EvP.round ?_
    simp only [spec_l02Draw.l0]
    exact EvP.no (by omega) (EvP.ret ⟨rfl, hd, hp⟩)
  | m + 1, i, hm, p, r, d, hp, hd => by
    refine EvP.round ?_
    simp only [spec_l02Draw.l0]
    refine EvP.yes (by omega) ?_
    have inner := EvP.up (fun k (z : Int × Int × List Int) j => spec_l02Draw.l1 k (n : Int) c (i : Int) j s z.1 z.2.1 (n : Int) z.2.2) (AlQ s n) i (fun _ z => Okd s z.1 ∧ z.2.2.length = n)
      (fun z ⟨h1, h2⟩ => by
        refine EvP.round ?_
        simp only [spec_l02Draw.l1]
        refine EvP.no (by omega) ?_
        rw [w64s (by omega)]
        exact drawRows_ev hs n hn c hc m (i + 1) (by omega) _ _ _ h1 h2)
      (fun j z hj ⟨h1, h2⟩ ih => by
        refine EvP.round ?_
        simp only [spec_l02Draw.l1]
        obtain ⟨v, p', r', e, hp', _⟩ := next_ev hs z.2.1 c h1
        refine EvP.yes (by omega) (EvP.here e ?_)
        rw [w64s (by omega)]
        by_cases hv : v = 0
        · obtain ⟨d', e', hd'⟩ := join_ev (n : Int) z.2.2 (a := i) (b := j) (by omega) (by omega) (by omega)
          refine EvP.yes hv (EvP.here e' ?_)
          exact ih (p', r', d') ⟨hp', by rw [hd', h2]⟩
        · refine EvP.no hv ?_
          exact ih (p', r', z.2.2) ⟨hp', h2⟩)
    exact inner 0 (p, r, d) (by omega) ⟨hp, hd⟩
/-- The drawn alphabet: at most four letters. -/
def AlD (s : List Int) (q : Int × List Int × Int × Int) : Prop := 0 ≤ q.1 ∧ q.1 ≤ 4 ∧ (q.2.1.length : Int) = q.1 ∧ Okd s q.2.2.1
theorem draw_j1 {s : List Int} (hs : Bytes s) {p : Int} (r v : Int) (hp : Okd s p) (h0 : 0 ≤ v) (h4 : v ≤ 4) : EvP (fun k => spec_l02Draw.j1 k v s p r) (AlD s) := by
  obtain ⟨n, rfl⟩ : ∃ n : Nat, v = (n : Int) := ⟨v.toNat, by omega⟩
  refine EvP.round ?_
  simp only [spec_l02Draw.j1]
  refine EvP.bindP (free_ev n (by omega)) (fun q hq => ?_)
  obtain ⟨c, p', r', e, hp', hc⟩ := pick_ev hs r [2, 2, 3, 4] (by simp) hp
  refine EvP.here e ?_
  have hc1 : 1 ≤ c := by simp at hc; omega
  obtain ⟨q1, q2⟩ := q
  obtain ⟨h1, h2⟩ := hq
  dsimp only at h1 h2
  subst h1
  refine (drawRows_ev hs n (by omega) c hc1 n 0 (by omega) p' r' q2 hp' h2).mono fun z ⟨z1, z2, z3⟩ => ⟨by omega, by omega, by omega, z3⟩
theorem draw_ev {s : List Int} (hs : Bytes s) {p : Int} (r : Int) (hp : Okd s p) : EvP (fun k => spec_l02Draw.f k s p r 4) (AlD s) := by
  unfold spec_l02Draw.f
  refine EvP.yes (by decide) ?_
  obtain ⟨v, p', r', e, hp', _, hv⟩ := next_ev hs r 6 hp
  refine EvP.here e (EvP.round ?_)
  simp only [spec_l02Draw.j0]
  by_cases h : (v == 0) = true
  · exact EvP.yes h (EvP.ret ⟨by show (0 : Int) ≤ 4; decide, by show (4 : Int) ≤ 4; decide, rfl, hp'⟩)
  · refine EvP.no h ?_
    obtain ⟨v2, p2, r2, e2, hp2, _, hv2⟩ := next_ev hs r' 5 hp'
    have e5 : wrap64 (4 + 1) = 5 := w64 (n := 4 + 1) (by omega) (by omega)
    rw [e5]
    refine EvP.here e2 ?_
    have := hv2 (by decide)
    by_cases h2 : v2 < 2
    · refine EvP.yes h2 ?_
      obtain ⟨v3, p3, r3, e3, hp3, _, hv3⟩ := next_ev hs r2 5 hp2
      have := hv3 (by decide)
      exact EvP.here e3 (draw_j1 hs r3 v3 hp3 (by omega) (by omega))
    · exact EvP.no h2 (draw_j1 hs r2 v2 hp2 (by omega) (by omega))
end Go.Proofs.YthbaocejgjpfoaaDoor.U
end M0
