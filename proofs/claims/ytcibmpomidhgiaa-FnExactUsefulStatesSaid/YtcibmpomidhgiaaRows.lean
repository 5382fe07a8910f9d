/-
  No cell of these rows narrows 'for every input' (looked for: loops, veiled, ifaces, maps, wideKeys, modest, calm, conditions, laid).
  DERIVED. THE GIVEN ROWS OF THIS SEAT. 5 by the template 'for every input the law returns true; each argument reads behind the call as it read before'; 0 by the template 'total and deterministic' (their statements: YtcibmpomidhgiaaTotals.lean).
  GIVEN WITH THE SEED: the statements are not yours to turn. If you find one false, say at which input.
  Laid BY PROGRAM, IN A SANDBOX (cutbox-rows.mjs): the forced cells as the released guide's own fill.sh prints them over the translation 0e0a43531ec6e261… (all of the seat's roots in one cut). By AI agents, Wed Nov 11 2026. No macro, syntax, notation, axiom, sorry.
-/
import Derived.Test.YtcibmpomidhgiaaChecked
import GoSem.Claim
import GoSem.ClaimJoined
import GoSem.ClaimMapViews
import Derived.JoinedTies
import Derived.KernelRfl
namespace Go.Proofs.Ytcibmpomidhgiaa
/- THE CELL 'sum', in the pinned program and in every row, IS THE sha256 OF THE DUMP (.gsa) THAT YtcibmpomidhgiaaProg.lean LOADS. Nothing in Lean hashes anything: it is a label: what it is worth is what the hold of that sum in a sandbox is worth. -/
noncomputable def Try.pinned : Pinned := { name := "ytcibmpomidhgiaa", sum := "0e0a43531ec6e261a4cba9807e3a207c311e404418b089f0e49577ed4dfa3a38", checked := Try.checked }
namespace Rows
def none {H : Type} : Left H := { results := [], args := [] }

/-- 'laws.FnExactAlphabetOfPlaces': WHATEVER THE INPUT: true; the input reads as it did. -/
def fnExactAlphabetOfPlacesSpec : ChangeSpec := { name := "fnExactAlphabetOfPlaces", fn := fun _ => fun
  | [d1, d2] => { results := [.lit (.bool true)], args := [d1, d2] }
  | _ => none }
def fnExactAlphabetOfPlacesRow : OpenClaim := { program := "ytcibmpomidhgiaa", sum := "0e0a43531ec6e261a4cba9807e3a207c311e404418b089f0e49577ed4dfa3a38", func := "loop.example/g01094/laws.FnExactAlphabetOfPlaces", spec := "fnExactAlphabetOfPlaces", unfollowed := true, recurses := true, apart := false }
def FnExactAlphabetOfPlacesSaid : Prop := fnExactAlphabetOfPlacesRow.holds Try.pinned (OpenSpec.ofChange fnExactAlphabetOfPlacesSpec)

/-- ITS FALSE NEIGHBOUR: 'it returns false'. Refute it at one input. -/
def fnExactAlphabetOfPlacesWrong : ChangeSpec := { name := "fnExactAlphabetOfPlaces", fn := fun _ => fun
  | [d1, d2] => { results := [.lit (.bool false)], args := [d1, d2] }
  | _ => none }
def FnExactAlphabetOfPlacesWrongFalsely : Prop := fnExactAlphabetOfPlacesRow.holds Try.pinned (OpenSpec.ofChange fnExactAlphabetOfPlacesWrong)

/-- 'laws.FnExactIsAutomaton': WHATEVER THE INPUT: true; the input reads as it did. -/
def fnExactIsAutomatonSpec : ChangeSpec := { name := "fnExactIsAutomaton", fn := fun _ => fun
  | [d] => { results := [.lit (.bool true)], args := [d] }
  | _ => none }
def fnExactIsAutomatonRow : OpenClaim := { program := "ytcibmpomidhgiaa", sum := "0e0a43531ec6e261a4cba9807e3a207c311e404418b089f0e49577ed4dfa3a38", func := "loop.example/g01094/laws.FnExactIsAutomaton", spec := "fnExactIsAutomaton", unfollowed := true, recurses := true, apart := false }
def FnExactIsAutomatonSaid : Prop := fnExactIsAutomatonRow.holds Try.pinned (OpenSpec.ofChange fnExactIsAutomatonSpec)

/-- ITS FALSE NEIGHBOUR: 'it returns false'. Refute it at one input. -/
def fnExactIsAutomatonWrong : ChangeSpec := { name := "fnExactIsAutomaton", fn := fun _ => fun
  | [d] => { results := [.lit (.bool false)], args := [d] }
  | _ => none }
def FnExactIsAutomatonWrongFalsely : Prop := fnExactIsAutomatonRow.holds Try.pinned (OpenSpec.ofChange fnExactIsAutomatonWrong)

/-- 'laws.FnExactAcceptsWord': WHATEVER THE INPUT: true; the input reads as it did. -/
def fnExactAcceptsWordSpec : ChangeSpec := { name := "fnExactAcceptsWord", fn := fun _ => fun
  | [d1, d2] => { results := [.lit (.bool true)], args := [d1, d2] }
  | _ => none }
def fnExactAcceptsWordRow : OpenClaim := { program := "ytcibmpomidhgiaa", sum := "0e0a43531ec6e261a4cba9807e3a207c311e404418b089f0e49577ed4dfa3a38", func := "loop.example/g01094/laws.FnExactAcceptsWord", spec := "fnExactAcceptsWord", unfollowed := true, recurses := true, apart := false }
def FnExactAcceptsWordSaid : Prop := fnExactAcceptsWordRow.holds Try.pinned (OpenSpec.ofChange fnExactAcceptsWordSpec)

/-- ITS FALSE NEIGHBOUR: 'it returns false'. Refute it at one input. -/
def fnExactAcceptsWordWrong : ChangeSpec := { name := "fnExactAcceptsWord", fn := fun _ => fun
  | [d1, d2] => { results := [.lit (.bool false)], args := [d1, d2] }
  | _ => none }
def FnExactAcceptsWordWrongFalsely : Prop := fnExactAcceptsWordRow.holds Try.pinned (OpenSpec.ofChange fnExactAcceptsWordWrong)

/-- 'laws.FnExactReadWord': WHATEVER THE INPUT: true; the input reads as it did. -/
def fnExactReadWordSpec : ChangeSpec := { name := "fnExactReadWord", fn := fun _ => fun
  | [d1, d2] => { results := [.lit (.bool true)], args := [d1, d2] }
  | _ => none }
def fnExactReadWordRow : OpenClaim := { program := "ytcibmpomidhgiaa", sum := "0e0a43531ec6e261a4cba9807e3a207c311e404418b089f0e49577ed4dfa3a38", func := "loop.example/g01094/laws.FnExactReadWord", spec := "fnExactReadWord", unfollowed := true, recurses := true, apart := false }
def FnExactReadWordSaid : Prop := fnExactReadWordRow.holds Try.pinned (OpenSpec.ofChange fnExactReadWordSpec)

/-- ITS FALSE NEIGHBOUR: 'it returns false'. Refute it at one input. -/
def fnExactReadWordWrong : ChangeSpec := { name := "fnExactReadWord", fn := fun _ => fun
  | [d1, d2] => { results := [.lit (.bool false)], args := [d1, d2] }
  | _ => none }
def FnExactReadWordWrongFalsely : Prop := fnExactReadWordRow.holds Try.pinned (OpenSpec.ofChange fnExactReadWordWrong)

/-- 'laws.FnExactUsefulStates': WHATEVER THE INPUT: true; the input reads as it did. -/
def fnExactUsefulStatesSpec : ChangeSpec := { name := "fnExactUsefulStates", fn := fun _ => fun
  | [d] => { results := [.lit (.bool true)], args := [d] }
  | _ => none }
def fnExactUsefulStatesRow : OpenClaim := { program := "ytcibmpomidhgiaa", sum := "0e0a43531ec6e261a4cba9807e3a207c311e404418b089f0e49577ed4dfa3a38", func := "loop.example/g01094/laws.FnExactUsefulStates", spec := "fnExactUsefulStates", unfollowed := true, recurses := true, apart := false }
def FnExactUsefulStatesSaid : Prop := fnExactUsefulStatesRow.holds Try.pinned (OpenSpec.ofChange fnExactUsefulStatesSpec)

/-- ITS FALSE NEIGHBOUR: 'it returns false'. Refute it at one input. -/
def fnExactUsefulStatesWrong : ChangeSpec := { name := "fnExactUsefulStates", fn := fun _ => fun
  | [d] => { results := [.lit (.bool false)], args := [d] }
  | _ => none }
def FnExactUsefulStatesWrongFalsely : Prop := fnExactUsefulStatesRow.holds Try.pinned (OpenSpec.ofChange fnExactUsefulStatesWrong)

/- THE SECOND FORM. 'bulk': how many values and letters a reading holds, each counted each time it is reached (what is shared counts as often as it is met; a slice's spare places count too). A statement '..UptoSaid' is the law's where the arguments, and the package variables that the reading takes, are together of bulk at most 1048576: NARROWER than '..Said'. Prove '..Said' where nothing that the law and all that it calls make is longer than what came in: it says more and counts as full. Else prove '..UptoSaid'. A law counts once. -/
mutual
def uptoBulk {H : Type} : DataW H → Nat
  | .lit (.string bytes) => bytes.length + 1
  | .lit _ => 1
  | .nil => 1
  | .ptr d => uptoBulk d + 1
  | .slice elems spare => uptoBulkAll elems + uptoBulkAll spare + 1
  | .agg parts => uptoBulkAll parts + 1
  | .iface _ d => uptoBulk d + 1
  | .map entries => uptoBulkEntries entries + 1
  | .held _ => 1
def uptoBulkAll {H : Type} : List (DataW H) → Nat
  | [] => 0
  | d :: r => uptoBulk d + uptoBulkAll r
def uptoBulkEntries {H : Type} : List (Lit × DataW H) → Nat
  | [] => 0
  | x :: r => uptoBulkEntry x + uptoBulkEntries r
def uptoBulkEntry {H : Type} : Lit × DataW H → Nat
  | (.string bytes, d) => bytes.length + uptoBulk d + 1
  | (_, d) => uptoBulk d + 1
 end
def uptoSmall : (H : Type) → List (DataW H) → Bool := fun _ ds => decide (uptoBulkAll ds ≤ 1048576)
def OpenSpec.upto (s : _root_.Go.ChangeSpec) : _root_.Go.OpenSpec := { _root_.Go.OpenSpec.ofChange s with cond := some uptoSmall }

/-- 'laws.FnExactAlphabetOfPlaces', WHERE WHAT IT READS IS OF BULK AT MOST 1048576: true; the input reads as it did. -/
def fnExactAlphabetOfPlacesUptoRow : OpenClaim := { program := "ytcibmpomidhgiaa", sum := "0e0a43531ec6e261a4cba9807e3a207c311e404418b089f0e49577ed4dfa3a38", func := "loop.example/g01094/laws.FnExactAlphabetOfPlaces", spec := "fnExactAlphabetOfPlaces", unfollowed := true, recurses := true, apart := false, narrowed := true }
def FnExactAlphabetOfPlacesUptoSaid : Prop := fnExactAlphabetOfPlacesUptoRow.holds Try.pinned (OpenSpec.upto fnExactAlphabetOfPlacesSpec)

/-- 'laws.FnExactIsAutomaton', WHERE WHAT IT READS IS OF BULK AT MOST 1048576: true; the input reads as it did. -/
def fnExactIsAutomatonUptoRow : OpenClaim := { program := "ytcibmpomidhgiaa", sum := "0e0a43531ec6e261a4cba9807e3a207c311e404418b089f0e49577ed4dfa3a38", func := "loop.example/g01094/laws.FnExactIsAutomaton", spec := "fnExactIsAutomaton", unfollowed := true, recurses := true, apart := false, narrowed := true }
def FnExactIsAutomatonUptoSaid : Prop := fnExactIsAutomatonUptoRow.holds Try.pinned (OpenSpec.upto fnExactIsAutomatonSpec)

/-- 'laws.FnExactAcceptsWord', WHERE WHAT IT READS IS OF BULK AT MOST 1048576: true; the input reads as it did. -/
def fnExactAcceptsWordUptoRow : OpenClaim := { program := "ytcibmpomidhgiaa", sum := "0e0a43531ec6e261a4cba9807e3a207c311e404418b089f0e49577ed4dfa3a38", func := "loop.example/g01094/laws.FnExactAcceptsWord", spec := "fnExactAcceptsWord", unfollowed := true, recurses := true, apart := false, narrowed := true }
def FnExactAcceptsWordUptoSaid : Prop := fnExactAcceptsWordUptoRow.holds Try.pinned (OpenSpec.upto fnExactAcceptsWordSpec)

/-- 'laws.FnExactReadWord', WHERE WHAT IT READS IS OF BULK AT MOST 1048576: true; the input reads as it did. -/
def fnExactReadWordUptoRow : OpenClaim := { program := "ytcibmpomidhgiaa", sum := "0e0a43531ec6e261a4cba9807e3a207c311e404418b089f0e49577ed4dfa3a38", func := "loop.example/g01094/laws.FnExactReadWord", spec := "fnExactReadWord", unfollowed := true, recurses := true, apart := false, narrowed := true }
def FnExactReadWordUptoSaid : Prop := fnExactReadWordUptoRow.holds Try.pinned (OpenSpec.upto fnExactReadWordSpec)

/-- 'laws.FnExactUsefulStates', WHERE WHAT IT READS IS OF BULK AT MOST 1048576: true; the input reads as it did. -/
def fnExactUsefulStatesUptoRow : OpenClaim := { program := "ytcibmpomidhgiaa", sum := "0e0a43531ec6e261a4cba9807e3a207c311e404418b089f0e49577ed4dfa3a38", func := "loop.example/g01094/laws.FnExactUsefulStates", spec := "fnExactUsefulStates", unfollowed := true, recurses := true, apart := false, narrowed := true }
def FnExactUsefulStatesUptoSaid : Prop := fnExactUsefulStatesUptoRow.holds Try.pinned (OpenSpec.upto fnExactUsefulStatesSpec)

end Rows
end Go.Proofs.Ytcibmpomidhgiaa
