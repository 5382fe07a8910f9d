/-
  NARROWER THAN 'FOR EVERY INPUT', by the rows' own cells (each row's printed sentence says how): FnExactIsFinite: laid · FnExactExpressionText: laid · FnExactHasDiamonds: laid · FnExactDiamondFault: laid · FnExactIsAsynchronous: laid · FnExactParseExpression: laid · FnExactInClosure: laid · FnExpressionTexts: laid · FnExactLoopFault: laid.
  DERIVED. THE GIVEN ROWS OF THIS SEAT. 9 by the template 'for every input the law returns true; each argument reads behind the call as it read before'; 0 by the template 'total and deterministic' (their statements: YthbaocejgjpfoaaDoorTotals.lean).
  GIVEN WITH THE SEED: the statements are not yours to turn. If you find one false, say at which input.
  Laid BY PROGRAM, IN A SANDBOX (cutbox-rows.mjs): the forced cells as the released guide's own fill.sh prints them over the translation f9e371e22e64c201… (all of the seat's roots in one cut). By AI agents, Wed Nov 11 2026. No macro, syntax, notation, axiom, sorry.
-/
import Derived.Test.YthbaocejgjpfoaaDoorChecked
import GoSem.Claim
import GoSem.ClaimJoined
import GoSem.ClaimMapViews
import Derived.JoinedTies
import Derived.KernelRfl
namespace Go.Proofs.YthbaocejgjpfoaaDoor
/- THE CELL 'sum', in the pinned program and in every row, IS THE sha256 OF THE DUMP (.gsa) THAT YthbaocejgjpfoaaDoorProg.lean LOADS. Nothing in Lean hashes anything: it is a label: what it is worth is what the hold of that sum in a sandbox is worth. -/
noncomputable def Tryd.pinned : Pinned := { name := "ythbaocejgjpfoaadoor", sum := "f9e371e22e64c201326767b4268ae4ff930d2e5b1614799ba65b07dfcf87d0b1", checked := Tryd.checked }
namespace Rows
def none {H : Type} : Left H := { results := [], args := [] }

/- WHAT THE LISTED PACKAGE-LEVEL VARIABLES READ AS WHEN THE CALL BEGINS. Each datum BY PROGRAM (the guide's laid-datum.mjs) off the statement by which the dump's own 'gosem.cut.vars' lays the variable. In a bare row this is a premise. The card (YthbaocejgjpfoaaDoorCards.lean) ties it to the program's text. -/
def laid_math_bits_deBruijn64tab {H : Type} : DataW H := .agg [.lit (.int .u8 0), .lit (.int .u8 1), .lit (.int .u8 56), .lit (.int .u8 2), .lit (.int .u8 57), .lit (.int .u8 49), .lit (.int .u8 28), .lit (.int .u8 3), .lit (.int .u8 61), .lit (.int .u8 58), .lit (.int .u8 42), .lit (.int .u8 50), .lit (.int .u8 38), .lit (.int .u8 29), .lit (.int .u8 17), .lit (.int .u8 4), .lit (.int .u8 62), .lit (.int .u8 47), .lit (.int .u8 59), .lit (.int .u8 36), .lit (.int .u8 45), .lit (.int .u8 43), .lit (.int .u8 51), .lit (.int .u8 22), .lit (.int .u8 53), .lit (.int .u8 39), .lit (.int .u8 33), .lit (.int .u8 30), .lit (.int .u8 24), .lit (.int .u8 18), .lit (.int .u8 12), .lit (.int .u8 5), .lit (.int .u8 63), .lit (.int .u8 55), .lit (.int .u8 48), .lit (.int .u8 27), .lit (.int .u8 60), .lit (.int .u8 41), .lit (.int .u8 37), .lit (.int .u8 16), .lit (.int .u8 46), .lit (.int .u8 35), .lit (.int .u8 44), .lit (.int .u8 21), .lit (.int .u8 52), .lit (.int .u8 32), .lit (.int .u8 23), .lit (.int .u8 11), .lit (.int .u8 54), .lit (.int .u8 26), .lit (.int .u8 40), .lit (.int .u8 15), .lit (.int .u8 34), .lit (.int .u8 20), .lit (.int .u8 31), .lit (.int .u8 10), .lit (.int .u8 25), .lit (.int .u8 14), .lit (.int .u8 19), .lit (.int .u8 9), .lit (.int .u8 13), .lit (.int .u8 8), .lit (.int .u8 7), .lit (.int .u8 6)]

/-- 'laws.FnExactIsFinite': WHATEVER THE INPUT: true; the input reads as it did. -/
def fnExactIsFiniteSpec : ChangeSpec := { name := "fnExactIsFinite", fn := fun _ => fun
  | [d1, d2] => { results := [.lit (.bool true)], args := [d1, d2] }
  | _ => none }
def fnExactIsFiniteRow : OpenClaim := { program := "ythbaocejgjpfoaadoor", sum := "f9e371e22e64c201326767b4268ae4ff930d2e5b1614799ba65b07dfcf87d0b1", func := "loop.example/g01094/laws.FnExactIsFinite", spec := "fnExactIsFinite", unfollowed := true, recurses := true, named := ["math/bits.deBruijn64tab"], plainKeys := false, apart := false, laid := [("math/bits.deBruijn64tab", laid_math_bits_deBruijn64tab)] }
def FnExactIsFiniteSaid : Prop := fnExactIsFiniteRow.holds Tryd.pinned (OpenSpec.ofChange fnExactIsFiniteSpec)

/-- ITS FALSE NEIGHBOUR: 'it returns false'. Refute it at one input. -/
def fnExactIsFiniteWrong : ChangeSpec := { name := "fnExactIsFinite", fn := fun _ => fun
  | [d1, d2] => { results := [.lit (.bool false)], args := [d1, d2] }
  | _ => none }
def FnExactIsFiniteWrongFalsely : Prop := fnExactIsFiniteRow.holds Tryd.pinned (OpenSpec.ofChange fnExactIsFiniteWrong)

/-- 'laws.FnExactExpressionText': WHATEVER THE INPUT: true; the input reads as it did. -/
def fnExactExpressionTextSpec : ChangeSpec := { name := "fnExactExpressionText", fn := fun _ => fun
  | [d1, d2] => { results := [.lit (.bool true)], args := [d1, d2] }
  | _ => none }
def fnExactExpressionTextRow : OpenClaim := { program := "ythbaocejgjpfoaadoor", sum := "f9e371e22e64c201326767b4268ae4ff930d2e5b1614799ba65b07dfcf87d0b1", func := "loop.example/g01094/laws.FnExactExpressionText", spec := "fnExactExpressionText", unfollowed := true, recurses := true, named := ["math/bits.deBruijn64tab"], plainKeys := false, apart := false, laid := [("math/bits.deBruijn64tab", laid_math_bits_deBruijn64tab)] }
def FnExactExpressionTextSaid : Prop := fnExactExpressionTextRow.holds Tryd.pinned (OpenSpec.ofChange fnExactExpressionTextSpec)

/-- ITS FALSE NEIGHBOUR: 'it returns false'. Refute it at one input. -/
def fnExactExpressionTextWrong : ChangeSpec := { name := "fnExactExpressionText", fn := fun _ => fun
  | [d1, d2] => { results := [.lit (.bool false)], args := [d1, d2] }
  | _ => none }
def FnExactExpressionTextWrongFalsely : Prop := fnExactExpressionTextRow.holds Tryd.pinned (OpenSpec.ofChange fnExactExpressionTextWrong)

/-- 'laws.FnExactHasDiamonds': WHATEVER THE INPUT: true; the input reads as it did. -/
def fnExactHasDiamondsSpec : ChangeSpec := { name := "fnExactHasDiamonds", fn := fun _ => fun
  | [d1, d2] => { results := [.lit (.bool true)], args := [d1, d2] }
  | _ => none }
def fnExactHasDiamondsRow : OpenClaim := { program := "ythbaocejgjpfoaadoor", sum := "f9e371e22e64c201326767b4268ae4ff930d2e5b1614799ba65b07dfcf87d0b1", func := "loop.example/g01094/laws.FnExactHasDiamonds", spec := "fnExactHasDiamonds", unfollowed := true, recurses := true, named := ["math/bits.deBruijn64tab"], plainKeys := false, apart := false, laid := [("math/bits.deBruijn64tab", laid_math_bits_deBruijn64tab)] }
def FnExactHasDiamondsSaid : Prop := fnExactHasDiamondsRow.holds Tryd.pinned (OpenSpec.ofChange fnExactHasDiamondsSpec)

/-- ITS FALSE NEIGHBOUR: 'it returns false'. Refute it at one input. -/
def fnExactHasDiamondsWrong : ChangeSpec := { name := "fnExactHasDiamonds", fn := fun _ => fun
  | [d1, d2] => { results := [.lit (.bool false)], args := [d1, d2] }
  | _ => none }
def FnExactHasDiamondsWrongFalsely : Prop := fnExactHasDiamondsRow.holds Tryd.pinned (OpenSpec.ofChange fnExactHasDiamondsWrong)

/-- 'laws.FnExactDiamondFault': WHATEVER THE INPUT: true; the input reads as it did. -/
def fnExactDiamondFaultSpec : ChangeSpec := { name := "fnExactDiamondFault", fn := fun _ => fun
  | [d1, d2] => { results := [.lit (.bool true)], args := [d1, d2] }
  | _ => none }
def fnExactDiamondFaultRow : OpenClaim := { program := "ythbaocejgjpfoaadoor", sum := "f9e371e22e64c201326767b4268ae4ff930d2e5b1614799ba65b07dfcf87d0b1", func := "loop.example/g01094/laws.FnExactDiamondFault", spec := "fnExactDiamondFault", unfollowed := true, recurses := true, named := ["math/bits.deBruijn64tab"], plainKeys := false, apart := false, laid := [("math/bits.deBruijn64tab", laid_math_bits_deBruijn64tab)] }
def FnExactDiamondFaultSaid : Prop := fnExactDiamondFaultRow.holds Tryd.pinned (OpenSpec.ofChange fnExactDiamondFaultSpec)

/-- ITS FALSE NEIGHBOUR: 'it returns false'. Refute it at one input. -/
def fnExactDiamondFaultWrong : ChangeSpec := { name := "fnExactDiamondFault", fn := fun _ => fun
  | [d1, d2] => { results := [.lit (.bool false)], args := [d1, d2] }
  | _ => none }
def FnExactDiamondFaultWrongFalsely : Prop := fnExactDiamondFaultRow.holds Tryd.pinned (OpenSpec.ofChange fnExactDiamondFaultWrong)

/-- 'laws.FnExactIsAsynchronous': WHATEVER THE INPUT: true; the input reads as it did. -/
def fnExactIsAsynchronousSpec : ChangeSpec := { name := "fnExactIsAsynchronous", fn := fun _ => fun
  | [d] => { results := [.lit (.bool true)], args := [d] }
  | _ => none }
def fnExactIsAsynchronousRow : OpenClaim := { program := "ythbaocejgjpfoaadoor", sum := "f9e371e22e64c201326767b4268ae4ff930d2e5b1614799ba65b07dfcf87d0b1", func := "loop.example/g01094/laws.FnExactIsAsynchronous", spec := "fnExactIsAsynchronous", unfollowed := true, recurses := true, named := ["math/bits.deBruijn64tab"], plainKeys := false, apart := false, laid := [("math/bits.deBruijn64tab", laid_math_bits_deBruijn64tab)] }
def FnExactIsAsynchronousSaid : Prop := fnExactIsAsynchronousRow.holds Tryd.pinned (OpenSpec.ofChange fnExactIsAsynchronousSpec)

/-- ITS FALSE NEIGHBOUR: 'it returns false'. Refute it at one input. -/
def fnExactIsAsynchronousWrong : ChangeSpec := { name := "fnExactIsAsynchronous", fn := fun _ => fun
  | [d] => { results := [.lit (.bool false)], args := [d] }
  | _ => none }
def FnExactIsAsynchronousWrongFalsely : Prop := fnExactIsAsynchronousRow.holds Tryd.pinned (OpenSpec.ofChange fnExactIsAsynchronousWrong)

/-- 'laws.FnExactParseExpression': WHATEVER THE INPUT: true; the input reads as it did. -/
def fnExactParseExpressionSpec : ChangeSpec := { name := "fnExactParseExpression", fn := fun _ => fun
  | [d1, d2] => { results := [.lit (.bool true)], args := [d1, d2] }
  | _ => none }
def fnExactParseExpressionRow : OpenClaim := { program := "ythbaocejgjpfoaadoor", sum := "f9e371e22e64c201326767b4268ae4ff930d2e5b1614799ba65b07dfcf87d0b1", func := "loop.example/g01094/laws.FnExactParseExpression", spec := "fnExactParseExpression", unfollowed := true, recurses := true, named := ["math/bits.deBruijn64tab"], plainKeys := false, apart := false, laid := [("math/bits.deBruijn64tab", laid_math_bits_deBruijn64tab)] }
def FnExactParseExpressionSaid : Prop := fnExactParseExpressionRow.holds Tryd.pinned (OpenSpec.ofChange fnExactParseExpressionSpec)

/-- ITS FALSE NEIGHBOUR: 'it returns false'. Refute it at one input. -/
def fnExactParseExpressionWrong : ChangeSpec := { name := "fnExactParseExpression", fn := fun _ => fun
  | [d1, d2] => { results := [.lit (.bool false)], args := [d1, d2] }
  | _ => none }
def FnExactParseExpressionWrongFalsely : Prop := fnExactParseExpressionRow.holds Tryd.pinned (OpenSpec.ofChange fnExactParseExpressionWrong)

/-- 'laws.FnExactInClosure': WHATEVER THE INPUT: true; the input reads as it did. -/
def fnExactInClosureSpec : ChangeSpec := { name := "fnExactInClosure", fn := fun _ => fun
  | [d1, d2, d3] => { results := [.lit (.bool true)], args := [d1, d2, d3] }
  | _ => none }
def fnExactInClosureRow : OpenClaim := { program := "ythbaocejgjpfoaadoor", sum := "f9e371e22e64c201326767b4268ae4ff930d2e5b1614799ba65b07dfcf87d0b1", func := "loop.example/g01094/laws.FnExactInClosure", spec := "fnExactInClosure", unfollowed := true, recurses := true, named := ["math/bits.deBruijn64tab"], plainKeys := false, apart := false, laid := [("math/bits.deBruijn64tab", laid_math_bits_deBruijn64tab)] }
def FnExactInClosureSaid : Prop := fnExactInClosureRow.holds Tryd.pinned (OpenSpec.ofChange fnExactInClosureSpec)

/-- ITS FALSE NEIGHBOUR: 'it returns false'. Refute it at one input. -/
def fnExactInClosureWrong : ChangeSpec := { name := "fnExactInClosure", fn := fun _ => fun
  | [d1, d2, d3] => { results := [.lit (.bool false)], args := [d1, d2, d3] }
  | _ => none }
def FnExactInClosureWrongFalsely : Prop := fnExactInClosureRow.holds Tryd.pinned (OpenSpec.ofChange fnExactInClosureWrong)

/-- 'laws.FnExpressionTexts': WHATEVER THE INPUT: true; the input reads as it did. -/
def fnExpressionTextsSpec : ChangeSpec := { name := "fnExpressionTexts", fn := fun _ => fun
  | [d] => { results := [.lit (.bool true)], args := [d] }
  | _ => none }
def fnExpressionTextsRow : OpenClaim := { program := "ythbaocejgjpfoaadoor", sum := "f9e371e22e64c201326767b4268ae4ff930d2e5b1614799ba65b07dfcf87d0b1", func := "loop.example/g01094/laws.FnExpressionTexts", spec := "fnExpressionTexts", unfollowed := true, recurses := true, named := ["math/bits.deBruijn64tab"], plainKeys := false, apart := false, laid := [("math/bits.deBruijn64tab", laid_math_bits_deBruijn64tab)] }
def FnExpressionTextsSaid : Prop := fnExpressionTextsRow.holds Tryd.pinned (OpenSpec.ofChange fnExpressionTextsSpec)

/-- ITS FALSE NEIGHBOUR: 'it returns false'. Refute it at one input. -/
def fnExpressionTextsWrong : ChangeSpec := { name := "fnExpressionTexts", fn := fun _ => fun
  | [d] => { results := [.lit (.bool false)], args := [d] }
  | _ => none }
def FnExpressionTextsWrongFalsely : Prop := fnExpressionTextsRow.holds Tryd.pinned (OpenSpec.ofChange fnExpressionTextsWrong)

/-- 'laws.FnExactLoopFault': WHATEVER THE INPUT: true; the input reads as it did. -/
def fnExactLoopFaultSpec : ChangeSpec := { name := "fnExactLoopFault", fn := fun _ => fun
  | [d1, d2] => { results := [.lit (.bool true)], args := [d1, d2] }
  | _ => none }
def fnExactLoopFaultRow : OpenClaim := { program := "ythbaocejgjpfoaadoor", sum := "f9e371e22e64c201326767b4268ae4ff930d2e5b1614799ba65b07dfcf87d0b1", func := "loop.example/g01094/laws.FnExactLoopFault", spec := "fnExactLoopFault", unfollowed := true, recurses := true, named := ["math/bits.deBruijn64tab"], plainKeys := false, apart := false, laid := [("math/bits.deBruijn64tab", laid_math_bits_deBruijn64tab)] }
def FnExactLoopFaultSaid : Prop := fnExactLoopFaultRow.holds Tryd.pinned (OpenSpec.ofChange fnExactLoopFaultSpec)

/-- ITS FALSE NEIGHBOUR: 'it returns false'. Refute it at one input. -/
def fnExactLoopFaultWrong : ChangeSpec := { name := "fnExactLoopFault", fn := fun _ => fun
  | [d1, d2] => { results := [.lit (.bool false)], args := [d1, d2] }
  | _ => none }
def FnExactLoopFaultWrongFalsely : Prop := fnExactLoopFaultRow.holds Tryd.pinned (OpenSpec.ofChange fnExactLoopFaultWrong)

/- THE SECOND FORM. 'bulk': how many values and letters a reading holds, each counted each time it is reached (what is shared counts as often as it is met; a slice's spare places count too). A statement '..UptoSaid' is the law's where the arguments, and the package variables that the reading takes, are together of bulk at most 1048576: NARROWER than '..Said'. Prove '..Said' where nothing that the law and all that it calls make is longer than what came in: it says more and counts as full. Else prove '..UptoSaid'. A law counts once. -/
mutual
def uptoBulk {H : Type} : DataW H → Nat
  | .lit (.string bytes) => bytes.length + 1
  | .lit _ => 1
  | .nil => 1
  | .ptr d => uptoBulk d + 1
  | .slice elems spare => uptoBulkAll elems + uptoBulkAll spare + 1
  | .agg parts => uptoBulkAll parts + 1
  | .iface _ d => uptoBulk d + 1
  | .map entries => uptoBulkEntries entries + 1
  | .held _ => 1
def uptoBulkAll {H : Type} : List (DataW H) → Nat
  | [] => 0
  | d :: r => uptoBulk d + uptoBulkAll r
def uptoBulkEntries {H : Type} : List (Lit × DataW H) → Nat
  | [] => 0
  | x :: r => uptoBulkEntry x + uptoBulkEntries r
def uptoBulkEntry {H : Type} : Lit × DataW H → Nat
  | (.string bytes, d) => bytes.length + uptoBulk d + 1
  | (_, d) => uptoBulk d + 1
 end
def uptoSmall : (H : Type) → List (DataW H) → Bool := fun _ ds => decide (uptoBulkAll ds ≤ 1048576)
def OpenSpec.upto (s : _root_.Go.ChangeSpec) : _root_.Go.OpenSpec := { _root_.Go.OpenSpec.ofChange s with cond := some uptoSmall }

/-- 'laws.FnExactIsFinite', WHERE WHAT IT READS IS OF BULK AT MOST 1048576: true; the input reads as it did. -/
def fnExactIsFiniteUptoRow : OpenClaim := { program := "ythbaocejgjpfoaadoor", sum := "f9e371e22e64c201326767b4268ae4ff930d2e5b1614799ba65b07dfcf87d0b1", func := "loop.example/g01094/laws.FnExactIsFinite", spec := "fnExactIsFinite", unfollowed := true, recurses := true, named := ["math/bits.deBruijn64tab"], plainKeys := false, apart := false, laid := [("math/bits.deBruijn64tab", laid_math_bits_deBruijn64tab)], narrowed := true }
def FnExactIsFiniteUptoSaid : Prop := fnExactIsFiniteUptoRow.holds Tryd.pinned (OpenSpec.upto fnExactIsFiniteSpec)

/-- 'laws.FnExactExpressionText', WHERE WHAT IT READS IS OF BULK AT MOST 1048576: true; the input reads as it did. -/
def fnExactExpressionTextUptoRow : OpenClaim := { program := "ythbaocejgjpfoaadoor", sum := "f9e371e22e64c201326767b4268ae4ff930d2e5b1614799ba65b07dfcf87d0b1", func := "loop.example/g01094/laws.FnExactExpressionText", spec := "fnExactExpressionText", unfollowed := true, recurses := true, named := ["math/bits.deBruijn64tab"], plainKeys := false, apart := false, laid := [("math/bits.deBruijn64tab", laid_math_bits_deBruijn64tab)], narrowed := true }
def FnExactExpressionTextUptoSaid : Prop := fnExactExpressionTextUptoRow.holds Tryd.pinned (OpenSpec.upto fnExactExpressionTextSpec)

/-- 'laws.FnExactHasDiamonds', WHERE WHAT IT READS IS OF BULK AT MOST 1048576: true; the input reads as it did. -/
def fnExactHasDiamondsUptoRow : OpenClaim := { program := "ythbaocejgjpfoaadoor", sum := "f9e371e22e64c201326767b4268ae4ff930d2e5b1614799ba65b07dfcf87d0b1", func := "loop.example/g01094/laws.FnExactHasDiamonds", spec := "fnExactHasDiamonds", unfollowed := true, recurses := true, named := ["math/bits.deBruijn64tab"], plainKeys := false, apart := false, laid := [("math/bits.deBruijn64tab", laid_math_bits_deBruijn64tab)], narrowed := true }
def FnExactHasDiamondsUptoSaid : Prop := fnExactHasDiamondsUptoRow.holds Tryd.pinned (OpenSpec.upto fnExactHasDiamondsSpec)

/-- 'laws.FnExactDiamondFault', WHERE WHAT IT READS IS OF BULK AT MOST 1048576: true; the input reads as it did. -/
def fnExactDiamondFaultUptoRow : OpenClaim := { program := "ythbaocejgjpfoaadoor", sum := "f9e371e22e64c201326767b4268ae4ff930d2e5b1614799ba65b07dfcf87d0b1", func := "loop.example/g01094/laws.FnExactDiamondFault", spec := "fnExactDiamondFault", unfollowed := true, recurses := true, named := ["math/bits.deBruijn64tab"], plainKeys := false, apart := false, laid := [("math/bits.deBruijn64tab", laid_math_bits_deBruijn64tab)], narrowed := true }
def FnExactDiamondFaultUptoSaid : Prop := fnExactDiamondFaultUptoRow.holds Tryd.pinned (OpenSpec.upto fnExactDiamondFaultSpec)

/-- 'laws.FnExactIsAsynchronous', WHERE WHAT IT READS IS OF BULK AT MOST 1048576: true; the input reads as it did. -/
def fnExactIsAsynchronousUptoRow : OpenClaim := { program := "ythbaocejgjpfoaadoor", sum := "f9e371e22e64c201326767b4268ae4ff930d2e5b1614799ba65b07dfcf87d0b1", func := "loop.example/g01094/laws.FnExactIsAsynchronous", spec := "fnExactIsAsynchronous", unfollowed := true, recurses := true, named := ["math/bits.deBruijn64tab"], plainKeys := false, apart := false, laid := [("math/bits.deBruijn64tab", laid_math_bits_deBruijn64tab)], narrowed := true }
def FnExactIsAsynchronousUptoSaid : Prop := fnExactIsAsynchronousUptoRow.holds Tryd.pinned (OpenSpec.upto fnExactIsAsynchronousSpec)

/-- 'laws.FnExactParseExpression', WHERE WHAT IT READS IS OF BULK AT MOST 1048576: true; the input reads as it did. -/
def fnExactParseExpressionUptoRow : OpenClaim := { program := "ythbaocejgjpfoaadoor", sum := "f9e371e22e64c201326767b4268ae4ff930d2e5b1614799ba65b07dfcf87d0b1", func := "loop.example/g01094/laws.FnExactParseExpression", spec := "fnExactParseExpression", unfollowed := true, recurses := true, named := ["math/bits.deBruijn64tab"], plainKeys := false, apart := false, laid := [("math/bits.deBruijn64tab", laid_math_bits_deBruijn64tab)], narrowed := true }
def FnExactParseExpressionUptoSaid : Prop := fnExactParseExpressionUptoRow.holds Tryd.pinned (OpenSpec.upto fnExactParseExpressionSpec)

/-- 'laws.FnExactInClosure', WHERE WHAT IT READS IS OF BULK AT MOST 1048576: true; the input reads as it did. -/
def fnExactInClosureUptoRow : OpenClaim := { program := "ythbaocejgjpfoaadoor", sum := "f9e371e22e64c201326767b4268ae4ff930d2e5b1614799ba65b07dfcf87d0b1", func := "loop.example/g01094/laws.FnExactInClosure", spec := "fnExactInClosure", unfollowed := true, recurses := true, named := ["math/bits.deBruijn64tab"], plainKeys := false, apart := false, laid := [("math/bits.deBruijn64tab", laid_math_bits_deBruijn64tab)], narrowed := true }
def FnExactInClosureUptoSaid : Prop := fnExactInClosureUptoRow.holds Tryd.pinned (OpenSpec.upto fnExactInClosureSpec)

/-- 'laws.FnExpressionTexts', WHERE WHAT IT READS IS OF BULK AT MOST 1048576: true; the input reads as it did. -/
def fnExpressionTextsUptoRow : OpenClaim := { program := "ythbaocejgjpfoaadoor", sum := "f9e371e22e64c201326767b4268ae4ff930d2e5b1614799ba65b07dfcf87d0b1", func := "loop.example/g01094/laws.FnExpressionTexts", spec := "fnExpressionTexts", unfollowed := true, recurses := true, named := ["math/bits.deBruijn64tab"], plainKeys := false, apart := false, laid := [("math/bits.deBruijn64tab", laid_math_bits_deBruijn64tab)], narrowed := true }
def FnExpressionTextsUptoSaid : Prop := fnExpressionTextsUptoRow.holds Tryd.pinned (OpenSpec.upto fnExpressionTextsSpec)

/-- 'laws.FnExactLoopFault', WHERE WHAT IT READS IS OF BULK AT MOST 1048576: true; the input reads as it did. -/
def fnExactLoopFaultUptoRow : OpenClaim := { program := "ythbaocejgjpfoaadoor", sum := "f9e371e22e64c201326767b4268ae4ff930d2e5b1614799ba65b07dfcf87d0b1", func := "loop.example/g01094/laws.FnExactLoopFault", spec := "fnExactLoopFault", unfollowed := true, recurses := true, named := ["math/bits.deBruijn64tab"], plainKeys := false, apart := false, laid := [("math/bits.deBruijn64tab", laid_math_bits_deBruijn64tab)], narrowed := true }
def FnExactLoopFaultUptoSaid : Prop := fnExactLoopFaultUptoRow.holds Tryd.pinned (OpenSpec.upto fnExactLoopFaultSpec)

end Rows
end Go.Proofs.YthbaocejgjpfoaaDoor
