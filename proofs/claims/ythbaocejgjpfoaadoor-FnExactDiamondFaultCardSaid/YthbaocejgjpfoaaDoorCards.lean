/-
  DERIVED. GIVEN WITH THE SEED: THE CARDS: each row of YthbaocejgjpfoaaDoorRows.lean that lists a variable, with what it lists TIED to the program's text (the seventh form; the later family's looks); each row that meets fmt, with fmt's text TOLD by the authors' own Lean function (tested against real Go, not proved from fmt's source: count such statements apart). THE CARD IS WHAT COUNTS. Prove the row's statement (the work); the ties are given (YthbaocejgjpfoaaDoorTie.lean); close each card by the builder's one call (the guide's Derived/Test/ToyasCard.lean, 'card_holds'). Laid BY PROGRAM, IN A SANDBOX (cutbox-door.mjs). By AI agents, Wed Nov 11 2026. No macro, syntax, notation, axiom, sorry.
-/
import Derived.Test.YthbaocejgjpfoaaDoorRows
import GoSem.ClaimSeven
namespace Go.Proofs.YthbaocejgjpfoaaDoor
namespace Rows

/-- THE TIED CARD OF 'laws.FnExactIsFinite'. -/
def fnExactIsFiniteCard : Claim7 := { stood := { row := fnExactIsFiniteRow, standIns := [], harness := (true, "bef61972715577bc553ac37b8cde377a8f9c5eaecb2bd56bc45d658c8753118b"), looks := false }, kinds := [], alts := [], laidByText := true, laidKinds := [.data], laidTests := true, laidLooks := .later }
def FnExactIsFiniteCardSaid : Prop := Claim7.holds Tryd.pinned (.plain (OpenSpec.ofChange fnExactIsFiniteSpec)) fnExactIsFiniteCard

/-- THE TIED CARD OF 'laws.FnExactExpressionText'. -/
def fnExactExpressionTextCard : Claim7 := { stood := { row := fnExactExpressionTextRow, standIns := [], harness := (true, "bef61972715577bc553ac37b8cde377a8f9c5eaecb2bd56bc45d658c8753118b"), looks := false }, kinds := [], alts := [], laidByText := true, laidKinds := [.data], laidTests := true, laidLooks := .later }
def FnExactExpressionTextCardSaid : Prop := Claim7.holds Tryd.pinned (.plain (OpenSpec.ofChange fnExactExpressionTextSpec)) fnExactExpressionTextCard

/-- THE TIED CARD OF 'laws.FnExactHasDiamonds'. -/
def fnExactHasDiamondsCard : Claim7 := { stood := { row := fnExactHasDiamondsRow, standIns := [], harness := (true, "bef61972715577bc553ac37b8cde377a8f9c5eaecb2bd56bc45d658c8753118b"), looks := false }, kinds := [], alts := [], laidByText := true, laidKinds := [.data], laidTests := true, laidLooks := .later }
def FnExactHasDiamondsCardSaid : Prop := Claim7.holds Tryd.pinned (.plain (OpenSpec.ofChange fnExactHasDiamondsSpec)) fnExactHasDiamondsCard

/-- THE TIED CARD OF 'laws.FnExactDiamondFault'. -/
def fnExactDiamondFaultCard : Claim7 := { stood := { row := fnExactDiamondFaultRow, standIns := [], harness := (true, "bef61972715577bc553ac37b8cde377a8f9c5eaecb2bd56bc45d658c8753118b"), looks := false }, kinds := [], alts := [], laidByText := true, laidKinds := [.data], laidTests := true, laidLooks := .later }
def FnExactDiamondFaultCardSaid : Prop := Claim7.holds Tryd.pinned (.plain (OpenSpec.ofChange fnExactDiamondFaultSpec)) fnExactDiamondFaultCard

/-- THE TIED CARD OF 'laws.FnExactIsAsynchronous'. -/
def fnExactIsAsynchronousCard : Claim7 := { stood := { row := fnExactIsAsynchronousRow, standIns := [], harness := (true, "bef61972715577bc553ac37b8cde377a8f9c5eaecb2bd56bc45d658c8753118b"), looks := false }, kinds := [], alts := [], laidByText := true, laidKinds := [.data], laidTests := true, laidLooks := .later }
def FnExactIsAsynchronousCardSaid : Prop := Claim7.holds Tryd.pinned (.plain (OpenSpec.ofChange fnExactIsAsynchronousSpec)) fnExactIsAsynchronousCard

/-- THE TIED CARD OF 'laws.FnExactParseExpression'. -/
def fnExactParseExpressionCard : Claim7 := { stood := { row := fnExactParseExpressionRow, standIns := [], harness := (true, "bef61972715577bc553ac37b8cde377a8f9c5eaecb2bd56bc45d658c8753118b"), looks := false }, kinds := [], alts := [], laidByText := true, laidKinds := [.data], laidTests := true, laidLooks := .later }
def FnExactParseExpressionCardSaid : Prop := Claim7.holds Tryd.pinned (.plain (OpenSpec.ofChange fnExactParseExpressionSpec)) fnExactParseExpressionCard

/-- THE TIED CARD OF 'laws.FnExactInClosure'. -/
def fnExactInClosureCard : Claim7 := { stood := { row := fnExactInClosureRow, standIns := [], harness := (true, "bef61972715577bc553ac37b8cde377a8f9c5eaecb2bd56bc45d658c8753118b"), looks := false }, kinds := [], alts := [], laidByText := true, laidKinds := [.data], laidTests := true, laidLooks := .later }
def FnExactInClosureCardSaid : Prop := Claim7.holds Tryd.pinned (.plain (OpenSpec.ofChange fnExactInClosureSpec)) fnExactInClosureCard

/-- THE TIED CARD OF 'laws.FnExpressionTexts'. -/
def fnExpressionTextsCard : Claim7 := { stood := { row := fnExpressionTextsRow, standIns := [], harness := (true, "bef61972715577bc553ac37b8cde377a8f9c5eaecb2bd56bc45d658c8753118b"), looks := false }, kinds := [], alts := [], laidByText := true, laidKinds := [.data], laidTests := true, laidLooks := .later }
def FnExpressionTextsCardSaid : Prop := Claim7.holds Tryd.pinned (.plain (OpenSpec.ofChange fnExpressionTextsSpec)) fnExpressionTextsCard

/-- THE TIED CARD OF 'laws.FnExactLoopFault'. -/
def fnExactLoopFaultCard : Claim7 := { stood := { row := fnExactLoopFaultRow, standIns := [], harness := (true, "bef61972715577bc553ac37b8cde377a8f9c5eaecb2bd56bc45d658c8753118b"), looks := false }, kinds := [], alts := [], laidByText := true, laidKinds := [.data], laidTests := true, laidLooks := .later }
def FnExactLoopFaultCardSaid : Prop := Claim7.holds Tryd.pinned (.plain (OpenSpec.ofChange fnExactLoopFaultSpec)) fnExactLoopFaultCard

/-- THE SECOND FORM's CARD OF 'laws.FnExactIsFinite'. -/
def fnExactIsFiniteUptoCard : Claim7 := { stood := { row := fnExactIsFiniteUptoRow, standIns := [], harness := (true, "bef61972715577bc553ac37b8cde377a8f9c5eaecb2bd56bc45d658c8753118b"), looks := false }, kinds := [], alts := [], laidByText := true, laidKinds := [.data], laidTests := true, laidLooks := .later }
def FnExactIsFiniteUptoCardSaid : Prop := Claim7.holds Tryd.pinned (.plain (OpenSpec.upto fnExactIsFiniteSpec)) fnExactIsFiniteUptoCard

/-- THE SECOND FORM's CARD OF 'laws.FnExactExpressionText'. -/
def fnExactExpressionTextUptoCard : Claim7 := { stood := { row := fnExactExpressionTextUptoRow, standIns := [], harness := (true, "bef61972715577bc553ac37b8cde377a8f9c5eaecb2bd56bc45d658c8753118b"), looks := false }, kinds := [], alts := [], laidByText := true, laidKinds := [.data], laidTests := true, laidLooks := .later }
def FnExactExpressionTextUptoCardSaid : Prop := Claim7.holds Tryd.pinned (.plain (OpenSpec.upto fnExactExpressionTextSpec)) fnExactExpressionTextUptoCard

/-- THE SECOND FORM's CARD OF 'laws.FnExactHasDiamonds'. -/
def fnExactHasDiamondsUptoCard : Claim7 := { stood := { row := fnExactHasDiamondsUptoRow, standIns := [], harness := (true, "bef61972715577bc553ac37b8cde377a8f9c5eaecb2bd56bc45d658c8753118b"), looks := false }, kinds := [], alts := [], laidByText := true, laidKinds := [.data], laidTests := true, laidLooks := .later }
def FnExactHasDiamondsUptoCardSaid : Prop := Claim7.holds Tryd.pinned (.plain (OpenSpec.upto fnExactHasDiamondsSpec)) fnExactHasDiamondsUptoCard

/-- THE SECOND FORM's CARD OF 'laws.FnExactDiamondFault'. -/
def fnExactDiamondFaultUptoCard : Claim7 := { stood := { row := fnExactDiamondFaultUptoRow, standIns := [], harness := (true, "bef61972715577bc553ac37b8cde377a8f9c5eaecb2bd56bc45d658c8753118b"), looks := false }, kinds := [], alts := [], laidByText := true, laidKinds := [.data], laidTests := true, laidLooks := .later }
def FnExactDiamondFaultUptoCardSaid : Prop := Claim7.holds Tryd.pinned (.plain (OpenSpec.upto fnExactDiamondFaultSpec)) fnExactDiamondFaultUptoCard

/-- THE SECOND FORM's CARD OF 'laws.FnExactIsAsynchronous'. -/
def fnExactIsAsynchronousUptoCard : Claim7 := { stood := { row := fnExactIsAsynchronousUptoRow, standIns := [], harness := (true, "bef61972715577bc553ac37b8cde377a8f9c5eaecb2bd56bc45d658c8753118b"), looks := false }, kinds := [], alts := [], laidByText := true, laidKinds := [.data], laidTests := true, laidLooks := .later }
def FnExactIsAsynchronousUptoCardSaid : Prop := Claim7.holds Tryd.pinned (.plain (OpenSpec.upto fnExactIsAsynchronousSpec)) fnExactIsAsynchronousUptoCard

/-- THE SECOND FORM's CARD OF 'laws.FnExactParseExpression'. -/
def fnExactParseExpressionUptoCard : Claim7 := { stood := { row := fnExactParseExpressionUptoRow, standIns := [], harness := (true, "bef61972715577bc553ac37b8cde377a8f9c5eaecb2bd56bc45d658c8753118b"), looks := false }, kinds := [], alts := [], laidByText := true, laidKinds := [.data], laidTests := true, laidLooks := .later }
def FnExactParseExpressionUptoCardSaid : Prop := Claim7.holds Tryd.pinned (.plain (OpenSpec.upto fnExactParseExpressionSpec)) fnExactParseExpressionUptoCard

/-- THE SECOND FORM's CARD OF 'laws.FnExactInClosure'. -/
def fnExactInClosureUptoCard : Claim7 := { stood := { row := fnExactInClosureUptoRow, standIns := [], harness := (true, "bef61972715577bc553ac37b8cde377a8f9c5eaecb2bd56bc45d658c8753118b"), looks := false }, kinds := [], alts := [], laidByText := true, laidKinds := [.data], laidTests := true, laidLooks := .later }
def FnExactInClosureUptoCardSaid : Prop := Claim7.holds Tryd.pinned (.plain (OpenSpec.upto fnExactInClosureSpec)) fnExactInClosureUptoCard

/-- THE SECOND FORM's CARD OF 'laws.FnExpressionTexts'. -/
def fnExpressionTextsUptoCard : Claim7 := { stood := { row := fnExpressionTextsUptoRow, standIns := [], harness := (true, "bef61972715577bc553ac37b8cde377a8f9c5eaecb2bd56bc45d658c8753118b"), looks := false }, kinds := [], alts := [], laidByText := true, laidKinds := [.data], laidTests := true, laidLooks := .later }
def FnExpressionTextsUptoCardSaid : Prop := Claim7.holds Tryd.pinned (.plain (OpenSpec.upto fnExpressionTextsSpec)) fnExpressionTextsUptoCard

/-- THE SECOND FORM's CARD OF 'laws.FnExactLoopFault'. -/
def fnExactLoopFaultUptoCard : Claim7 := { stood := { row := fnExactLoopFaultUptoRow, standIns := [], harness := (true, "bef61972715577bc553ac37b8cde377a8f9c5eaecb2bd56bc45d658c8753118b"), looks := false }, kinds := [], alts := [], laidByText := true, laidKinds := [.data], laidTests := true, laidLooks := .later }
def FnExactLoopFaultUptoCardSaid : Prop := Claim7.holds Tryd.pinned (.plain (OpenSpec.upto fnExactLoopFaultSpec)) fnExactLoopFaultUptoCard
end Rows
end Go.Proofs.YthbaocejgjpfoaaDoor
