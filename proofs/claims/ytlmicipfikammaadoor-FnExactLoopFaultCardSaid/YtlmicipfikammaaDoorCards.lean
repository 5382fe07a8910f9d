/-
  DERIVED. GIVEN WITH THE SEED: THE CARDS: each row of YtlmicipfikammaaDoorRows.lean that lists a variable, with what it lists TIED to the program's text (the seventh form; the later family's looks); each row that meets fmt, with fmt's text TOLD by the authors' own Lean function (tested against real Go, not proved from fmt's source: count such statements apart). THE CARD IS WHAT COUNTS. Prove the row's statement (the work); the ties are given (YtlmicipfikammaaDoorTie.lean); close each card by the builder's one call (the guide's Derived/Test/ToyasCard.lean, 'card_holds'). Laid BY PROGRAM, IN A SANDBOX (cutbox-door.mjs). By AI agents, Wed Nov 11 2026. No macro, syntax, notation, axiom, sorry.
-/
import Derived.Test.YtlmicipfikammaaDoorRows
import GoSem.ClaimSeven
namespace Go.Proofs.YtlmicipfikammaaDoor
namespace Rows

/-- THE TIED CARD OF 'laws.FnExactInClosure'. -/
def fnExactInClosureCard : Claim7 := { stood := { row := fnExactInClosureRow, standIns := [], harness := (true, "eee12bfa0fff192614687238d64d513f785d34ddd0072cab921563b0e27ddaae"), looks := false }, kinds := [], alts := [], laidByText := true, laidKinds := [.data], laidTests := true, laidLooks := .later }
def FnExactInClosureCardSaid : Prop := Claim7.holds Tryd.pinned (.plain (OpenSpec.ofChange fnExactInClosureSpec)) fnExactInClosureCard

/-- THE TIED CARD OF 'laws.FnExactLoopFault'. -/
def fnExactLoopFaultCard : Claim7 := { stood := { row := fnExactLoopFaultRow, standIns := [], harness := (true, "eee12bfa0fff192614687238d64d513f785d34ddd0072cab921563b0e27ddaae"), looks := false }, kinds := [], alts := [], laidByText := true, laidKinds := [.data], laidTests := true, laidLooks := .later }
def FnExactLoopFaultCardSaid : Prop := Claim7.holds Tryd.pinned (.plain (OpenSpec.ofChange fnExactLoopFaultSpec)) fnExactLoopFaultCard

/-- THE TIED CARD OF 'laws.FnExactProjectionAutomaton'. -/
def fnExactProjectionAutomatonCard : Claim7 := { stood := { row := fnExactProjectionAutomatonRow, standIns := [], harness := (true, "eee12bfa0fff192614687238d64d513f785d34ddd0072cab921563b0e27ddaae"), looks := false }, kinds := [], alts := [], laidByText := true, laidKinds := [.data], laidTests := true, laidLooks := .later }
def FnExactProjectionAutomatonCardSaid : Prop := Claim7.holds Tryd.pinned (.plain (OpenSpec.ofChange fnExactProjectionAutomatonSpec)) fnExactProjectionAutomatonCard

/-- THE TIED CARD OF 'laws.FnExactIsClosedList'. -/
def fnExactIsClosedListCard : Claim7 := { stood := { row := fnExactIsClosedListRow, standIns := [], harness := (true, "eee12bfa0fff192614687238d64d513f785d34ddd0072cab921563b0e27ddaae"), looks := false }, kinds := [], alts := [], laidByText := true, laidKinds := [.data], laidTests := true, laidLooks := .later }
def FnExactIsClosedListCardSaid : Prop := Claim7.holds Tryd.pinned (.plain (OpenSpec.ofChange fnExactIsClosedListSpec)) fnExactIsClosedListCard

/-- THE TIED CARD OF 'laws.FnExactTracesIn'. -/
def fnExactTracesInCard : Claim7 := { stood := { row := fnExactTracesInRow, standIns := [], harness := (true, "eee12bfa0fff192614687238d64d513f785d34ddd0072cab921563b0e27ddaae"), looks := false }, kinds := [], alts := [], laidByText := true, laidKinds := [.data], laidTests := true, laidLooks := .later }
def FnExactTracesInCardSaid : Prop := Claim7.holds Tryd.pinned (.plain (OpenSpec.ofChange fnExactTracesInSpec)) fnExactTracesInCard

/-- THE SECOND FORM's CARD OF 'laws.FnExactInClosure'. -/
def fnExactInClosureUptoCard : Claim7 := { stood := { row := fnExactInClosureUptoRow, standIns := [], harness := (true, "eee12bfa0fff192614687238d64d513f785d34ddd0072cab921563b0e27ddaae"), looks := false }, kinds := [], alts := [], laidByText := true, laidKinds := [.data], laidTests := true, laidLooks := .later }
def FnExactInClosureUptoCardSaid : Prop := Claim7.holds Tryd.pinned (.plain (OpenSpec.upto fnExactInClosureSpec)) fnExactInClosureUptoCard

/-- THE SECOND FORM's CARD OF 'laws.FnExactLoopFault'. -/
def fnExactLoopFaultUptoCard : Claim7 := { stood := { row := fnExactLoopFaultUptoRow, standIns := [], harness := (true, "eee12bfa0fff192614687238d64d513f785d34ddd0072cab921563b0e27ddaae"), looks := false }, kinds := [], alts := [], laidByText := true, laidKinds := [.data], laidTests := true, laidLooks := .later }
def FnExactLoopFaultUptoCardSaid : Prop := Claim7.holds Tryd.pinned (.plain (OpenSpec.upto fnExactLoopFaultSpec)) fnExactLoopFaultUptoCard

/-- THE SECOND FORM's CARD OF 'laws.FnExactProjectionAutomaton'. -/
def fnExactProjectionAutomatonUptoCard : Claim7 := { stood := { row := fnExactProjectionAutomatonUptoRow, standIns := [], harness := (true, "eee12bfa0fff192614687238d64d513f785d34ddd0072cab921563b0e27ddaae"), looks := false }, kinds := [], alts := [], laidByText := true, laidKinds := [.data], laidTests := true, laidLooks := .later }
def FnExactProjectionAutomatonUptoCardSaid : Prop := Claim7.holds Tryd.pinned (.plain (OpenSpec.upto fnExactProjectionAutomatonSpec)) fnExactProjectionAutomatonUptoCard

/-- THE SECOND FORM's CARD OF 'laws.FnExactIsClosedList'. -/
def fnExactIsClosedListUptoCard : Claim7 := { stood := { row := fnExactIsClosedListUptoRow, standIns := [], harness := (true, "eee12bfa0fff192614687238d64d513f785d34ddd0072cab921563b0e27ddaae"), looks := false }, kinds := [], alts := [], laidByText := true, laidKinds := [.data], laidTests := true, laidLooks := .later }
def FnExactIsClosedListUptoCardSaid : Prop := Claim7.holds Tryd.pinned (.plain (OpenSpec.upto fnExactIsClosedListSpec)) fnExactIsClosedListUptoCard

/-- THE SECOND FORM's CARD OF 'laws.FnExactTracesIn'. -/
def fnExactTracesInUptoCard : Claim7 := { stood := { row := fnExactTracesInUptoRow, standIns := [], harness := (true, "eee12bfa0fff192614687238d64d513f785d34ddd0072cab921563b0e27ddaae"), looks := false }, kinds := [], alts := [], laidByText := true, laidKinds := [.data], laidTests := true, laidLooks := .later }
def FnExactTracesInUptoCardSaid : Prop := Claim7.holds Tryd.pinned (.plain (OpenSpec.upto fnExactTracesInSpec)) fnExactTracesInUptoCard
end Rows
end Go.Proofs.YtlmicipfikammaaDoor
