/-
  No cell of these rows narrows 'for every input' (looked for: loops, veiled, ifaces, maps, wideKeys, modest, calm, conditions, laid).
  DERIVED. THE GIVEN ROWS OF THIS SEAT. 6 by the template 'for every input the law returns true; each argument reads behind the call as it read before'; 0 by the template 'total and deterministic' (their statements: YtgindgodfcfgkaaTotals.lean).
  GIVEN WITH THE SEED: the statements are not yours to turn. If you find one false, say at which input.
  Laid BY PROGRAM, IN A SANDBOX (cutbox-rows.mjs): the forced cells as the released guide's own fill.sh prints them over the translation eed634617c559858… (all of the seat's roots in one cut). By AI agents, Wed Nov 11 2026. No macro, syntax, notation, axiom, sorry.
-/
import Derived.Test.YtgindgodfcfgkaaChecked
import GoSem.Claim
import GoSem.ClaimJoined
import GoSem.ClaimMapViews
import Derived.JoinedTies
import Derived.KernelRfl
namespace Go.Proofs.Ytgindgodfcfgkaa
/- THE CELL 'sum', in the pinned program and in every row, IS THE sha256 OF THE DUMP (.gsa) THAT YtgindgodfcfgkaaProg.lean LOADS. Nothing in Lean hashes anything: it is a label: what it is worth is what the hold of that sum in a sandbox is worth. -/
noncomputable def Try.pinned : Pinned := { name := "ytgindgodfcfgkaa", sum := "eed634617c559858f64e33f410c69e5c0bb9aa31d8c9af4c923f328e9274d72c", checked := Try.checked }
namespace Rows
def none {H : Type} : Left H := { results := [], args := [] }

/-- 'laws.FnExactMinimalAutomaton': WHATEVER THE INPUT: true; the input reads as it did. -/
def fnExactMinimalAutomatonSpec : ChangeSpec := { name := "fnExactMinimalAutomaton", fn := fun _ => fun
  | [d] => { results := [.lit (.bool true)], args := [d] }
  | _ => none }
def fnExactMinimalAutomatonRow : OpenClaim := { program := "ytgindgodfcfgkaa", sum := "eed634617c559858f64e33f410c69e5c0bb9aa31d8c9af4c923f328e9274d72c", func := "loop.example/g01094/laws.FnExactMinimalAutomaton", spec := "fnExactMinimalAutomaton", unfollowed := true, recurses := true, apart := false }
def FnExactMinimalAutomatonSaid : Prop := fnExactMinimalAutomatonRow.holds Try.pinned (OpenSpec.ofChange fnExactMinimalAutomatonSpec)

/-- ITS FALSE NEIGHBOUR: 'it returns false'. Refute it at one input. -/
def fnExactMinimalAutomatonWrong : ChangeSpec := { name := "fnExactMinimalAutomaton", fn := fun _ => fun
  | [d] => { results := [.lit (.bool false)], args := [d] }
  | _ => none }
def FnExactMinimalAutomatonWrongFalsely : Prop := fnExactMinimalAutomatonRow.holds Try.pinned (OpenSpec.ofChange fnExactMinimalAutomatonWrong)

/-- 'laws.FnExactPrefixAutomaton': WHATEVER THE INPUT: true; the input reads as it did. -/
def fnExactPrefixAutomatonSpec : ChangeSpec := { name := "fnExactPrefixAutomaton", fn := fun _ => fun
  | [d] => { results := [.lit (.bool true)], args := [d] }
  | _ => none }
def fnExactPrefixAutomatonRow : OpenClaim := { program := "ytgindgodfcfgkaa", sum := "eed634617c559858f64e33f410c69e5c0bb9aa31d8c9af4c923f328e9274d72c", func := "loop.example/g01094/laws.FnExactPrefixAutomaton", spec := "fnExactPrefixAutomaton", unfollowed := true, recurses := true, apart := false }
def FnExactPrefixAutomatonSaid : Prop := fnExactPrefixAutomatonRow.holds Try.pinned (OpenSpec.ofChange fnExactPrefixAutomatonSpec)

/-- ITS FALSE NEIGHBOUR: 'it returns false'. Refute it at one input. -/
def fnExactPrefixAutomatonWrong : ChangeSpec := { name := "fnExactPrefixAutomaton", fn := fun _ => fun
  | [d] => { results := [.lit (.bool false)], args := [d] }
  | _ => none }
def FnExactPrefixAutomatonWrongFalsely : Prop := fnExactPrefixAutomatonRow.holds Try.pinned (OpenSpec.ofChange fnExactPrefixAutomatonWrong)

/-- 'laws.FnExactResidualOf': WHATEVER THE INPUT: true; the input reads as it did. -/
def fnExactResidualOfSpec : ChangeSpec := { name := "fnExactResidualOf", fn := fun _ => fun
  | [d1, d2] => { results := [.lit (.bool true)], args := [d1, d2] }
  | _ => none }
def fnExactResidualOfRow : OpenClaim := { program := "ytgindgodfcfgkaa", sum := "eed634617c559858f64e33f410c69e5c0bb9aa31d8c9af4c923f328e9274d72c", func := "loop.example/g01094/laws.FnExactResidualOf", spec := "fnExactResidualOf", unfollowed := true, recurses := true, apart := false }
def FnExactResidualOfSaid : Prop := fnExactResidualOfRow.holds Try.pinned (OpenSpec.ofChange fnExactResidualOfSpec)

/-- ITS FALSE NEIGHBOUR: 'it returns false'. Refute it at one input. -/
def fnExactResidualOfWrong : ChangeSpec := { name := "fnExactResidualOf", fn := fun _ => fun
  | [d1, d2] => { results := [.lit (.bool false)], args := [d1, d2] }
  | _ => none }
def FnExactResidualOfWrongFalsely : Prop := fnExactResidualOfRow.holds Try.pinned (OpenSpec.ofChange fnExactResidualOfWrong)

/-- 'laws.FnExactFunctionWords': WHATEVER THE INPUT: true; the input reads as it did. -/
def fnExactFunctionWordsSpec : ChangeSpec := { name := "fnExactFunctionWords", fn := fun _ => fun
  | [d] => { results := [.lit (.bool true)], args := [d] }
  | _ => none }
def fnExactFunctionWordsRow : OpenClaim := { program := "ytgindgodfcfgkaa", sum := "eed634617c559858f64e33f410c69e5c0bb9aa31d8c9af4c923f328e9274d72c", func := "loop.example/g01094/laws.FnExactFunctionWords", spec := "fnExactFunctionWords", unfollowed := true, recurses := true, apart := false }
def FnExactFunctionWordsSaid : Prop := fnExactFunctionWordsRow.holds Try.pinned (OpenSpec.ofChange fnExactFunctionWordsSpec)

/-- ITS FALSE NEIGHBOUR: 'it returns false'. Refute it at one input. -/
def fnExactFunctionWordsWrong : ChangeSpec := { name := "fnExactFunctionWords", fn := fun _ => fun
  | [d] => { results := [.lit (.bool false)], args := [d] }
  | _ => none }
def FnExactFunctionWordsWrongFalsely : Prop := fnExactFunctionWordsRow.holds Try.pinned (OpenSpec.ofChange fnExactFunctionWordsWrong)

/-- 'laws.FnResidualLanguages': WHATEVER THE INPUT: true; the input reads as it did. -/
def fnResidualLanguagesSpec : ChangeSpec := { name := "fnResidualLanguages", fn := fun _ => fun
  | [d] => { results := [.lit (.bool true)], args := [d] }
  | _ => none }
def fnResidualLanguagesRow : OpenClaim := { program := "ytgindgodfcfgkaa", sum := "eed634617c559858f64e33f410c69e5c0bb9aa31d8c9af4c923f328e9274d72c", func := "loop.example/g01094/laws.FnResidualLanguages", spec := "fnResidualLanguages", unfollowed := true, recurses := true, apart := false }
def FnResidualLanguagesSaid : Prop := fnResidualLanguagesRow.holds Try.pinned (OpenSpec.ofChange fnResidualLanguagesSpec)

/-- ITS FALSE NEIGHBOUR: 'it returns false'. Refute it at one input. -/
def fnResidualLanguagesWrong : ChangeSpec := { name := "fnResidualLanguages", fn := fun _ => fun
  | [d] => { results := [.lit (.bool false)], args := [d] }
  | _ => none }
def FnResidualLanguagesWrongFalsely : Prop := fnResidualLanguagesRow.holds Try.pinned (OpenSpec.ofChange fnResidualLanguagesWrong)

/-- 'laws.FnFunctionWords': WHATEVER THE INPUT: true; the input reads as it did. -/
def fnFunctionWordsSpec : ChangeSpec := { name := "fnFunctionWords", fn := fun _ => fun
  | [d] => { results := [.lit (.bool true)], args := [d] }
  | _ => none }
def fnFunctionWordsRow : OpenClaim := { program := "ytgindgodfcfgkaa", sum := "eed634617c559858f64e33f410c69e5c0bb9aa31d8c9af4c923f328e9274d72c", func := "loop.example/g01094/laws.FnFunctionWords", spec := "fnFunctionWords", unfollowed := true, recurses := true, apart := false }
def FnFunctionWordsSaid : Prop := fnFunctionWordsRow.holds Try.pinned (OpenSpec.ofChange fnFunctionWordsSpec)

/-- ITS FALSE NEIGHBOUR: 'it returns false'. Refute it at one input. -/
def fnFunctionWordsWrong : ChangeSpec := { name := "fnFunctionWords", fn := fun _ => fun
  | [d] => { results := [.lit (.bool false)], args := [d] }
  | _ => none }
def FnFunctionWordsWrongFalsely : Prop := fnFunctionWordsRow.holds Try.pinned (OpenSpec.ofChange fnFunctionWordsWrong)

/- THE SECOND FORM. 'bulk': how many values and letters a reading holds, each counted each time it is reached (what is shared counts as often as it is met; a slice's spare places count too). A statement '..UptoSaid' is the law's where the arguments, and the package variables that the reading takes, are together of bulk at most 1048576: NARROWER than '..Said'. Prove '..Said' where nothing that the law and all that it calls make is longer than what came in: it says more and counts as full. Else prove '..UptoSaid'. A law counts once. -/
mutual
def uptoBulk {H : Type} : DataW H → Nat
  | .lit (.string bytes) => bytes.length + 1
  | .lit _ => 1
  | .nil => 1
  | .ptr d => uptoBulk d + 1
  | .slice elems spare => uptoBulkAll elems + uptoBulkAll spare + 1
  | .agg parts => uptoBulkAll parts + 1
  | .iface _ d => uptoBulk d + 1
  | .map entries => uptoBulkEntries entries + 1
  | .held _ => 1
def uptoBulkAll {H : Type} : List (DataW H) → Nat
  | [] => 0
  | d :: r => uptoBulk d + uptoBulkAll r
def uptoBulkEntries {H : Type} : List (Lit × DataW H) → Nat
  | [] => 0
  | x :: r => uptoBulkEntry x + uptoBulkEntries r
def uptoBulkEntry {H : Type} : Lit × DataW H → Nat
  | (.string bytes, d) => bytes.length + uptoBulk d + 1
  | (_, d) => uptoBulk d + 1
 end
def uptoSmall : (H : Type) → List (DataW H) → Bool := fun _ ds => decide (uptoBulkAll ds ≤ 1048576)
def OpenSpec.upto (s : _root_.Go.ChangeSpec) : _root_.Go.OpenSpec := { _root_.Go.OpenSpec.ofChange s with cond := some uptoSmall }

/-- 'laws.FnExactMinimalAutomaton', WHERE WHAT IT READS IS OF BULK AT MOST 1048576: true; the input reads as it did. -/
def fnExactMinimalAutomatonUptoRow : OpenClaim := { program := "ytgindgodfcfgkaa", sum := "eed634617c559858f64e33f410c69e5c0bb9aa31d8c9af4c923f328e9274d72c", func := "loop.example/g01094/laws.FnExactMinimalAutomaton", spec := "fnExactMinimalAutomaton", unfollowed := true, recurses := true, apart := false, narrowed := true }
def FnExactMinimalAutomatonUptoSaid : Prop := fnExactMinimalAutomatonUptoRow.holds Try.pinned (OpenSpec.upto fnExactMinimalAutomatonSpec)

/-- 'laws.FnExactPrefixAutomaton', WHERE WHAT IT READS IS OF BULK AT MOST 1048576: true; the input reads as it did. -/
def fnExactPrefixAutomatonUptoRow : OpenClaim := { program := "ytgindgodfcfgkaa", sum := "eed634617c559858f64e33f410c69e5c0bb9aa31d8c9af4c923f328e9274d72c", func := "loop.example/g01094/laws.FnExactPrefixAutomaton", spec := "fnExactPrefixAutomaton", unfollowed := true, recurses := true, apart := false, narrowed := true }
def FnExactPrefixAutomatonUptoSaid : Prop := fnExactPrefixAutomatonUptoRow.holds Try.pinned (OpenSpec.upto fnExactPrefixAutomatonSpec)

/-- 'laws.FnExactResidualOf', WHERE WHAT IT READS IS OF BULK AT MOST 1048576: true; the input reads as it did. -/
def fnExactResidualOfUptoRow : OpenClaim := { program := "ytgindgodfcfgkaa", sum := "eed634617c559858f64e33f410c69e5c0bb9aa31d8c9af4c923f328e9274d72c", func := "loop.example/g01094/laws.FnExactResidualOf", spec := "fnExactResidualOf", unfollowed := true, recurses := true, apart := false, narrowed := true }
def FnExactResidualOfUptoSaid : Prop := fnExactResidualOfUptoRow.holds Try.pinned (OpenSpec.upto fnExactResidualOfSpec)

/-- 'laws.FnExactFunctionWords', WHERE WHAT IT READS IS OF BULK AT MOST 1048576: true; the input reads as it did. -/
def fnExactFunctionWordsUptoRow : OpenClaim := { program := "ytgindgodfcfgkaa", sum := "eed634617c559858f64e33f410c69e5c0bb9aa31d8c9af4c923f328e9274d72c", func := "loop.example/g01094/laws.FnExactFunctionWords", spec := "fnExactFunctionWords", unfollowed := true, recurses := true, apart := false, narrowed := true }
def FnExactFunctionWordsUptoSaid : Prop := fnExactFunctionWordsUptoRow.holds Try.pinned (OpenSpec.upto fnExactFunctionWordsSpec)

/-- 'laws.FnResidualLanguages', WHERE WHAT IT READS IS OF BULK AT MOST 1048576: true; the input reads as it did. -/
def fnResidualLanguagesUptoRow : OpenClaim := { program := "ytgindgodfcfgkaa", sum := "eed634617c559858f64e33f410c69e5c0bb9aa31d8c9af4c923f328e9274d72c", func := "loop.example/g01094/laws.FnResidualLanguages", spec := "fnResidualLanguages", unfollowed := true, recurses := true, apart := false, narrowed := true }
def FnResidualLanguagesUptoSaid : Prop := fnResidualLanguagesUptoRow.holds Try.pinned (OpenSpec.upto fnResidualLanguagesSpec)

/-- 'laws.FnFunctionWords', WHERE WHAT IT READS IS OF BULK AT MOST 1048576: true; the input reads as it did. -/
def fnFunctionWordsUptoRow : OpenClaim := { program := "ytgindgodfcfgkaa", sum := "eed634617c559858f64e33f410c69e5c0bb9aa31d8c9af4c923f328e9274d72c", func := "loop.example/g01094/laws.FnFunctionWords", spec := "fnFunctionWords", unfollowed := true, recurses := true, apart := false, narrowed := true }
def FnFunctionWordsUptoSaid : Prop := fnFunctionWordsUptoRow.holds Try.pinned (OpenSpec.upto fnFunctionWordsSpec)

end Rows
end Go.Proofs.Ytgindgodfcfgkaa
