/-
  DERIVED. GIVEN WITH THE SEED: THE CARDS: each row of YtcibmpomidhgiaaDoorRows.lean that lists a variable, with what it lists TIED to the program's text (the seventh form; the later family's looks); each row that meets fmt, with fmt's text TOLD by the authors' own Lean function (tested against real Go, not proved from fmt's source: count such statements apart). THE CARD IS WHAT COUNTS. Prove the row's statement (the work); the ties are given (YtcibmpomidhgiaaDoorTie.lean); close each card by the builder's one call (the guide's Derived/Test/ToyasCard.lean, 'card_holds'). Laid BY PROGRAM, IN A SANDBOX (cutbox-door.mjs). By AI agents, Wed Nov 11 2026. No macro, syntax, notation, axiom, sorry.
-/
import Derived.Test.YtcibmpomidhgiaaDoorRows
import GoSem.ClaimSeven
namespace Go.Proofs.YtcibmpomidhgiaaDoor
namespace Rows

/-- THE TIED CARD OF 'laws.FnExactIsExpression'. -/
def fnExactIsExpressionCard : Claim7 := { stood := { row := fnExactIsExpressionRow, standIns := [], harness := (true, "d1139d916de84ac79565f5d544e79f6867c3b93bf407b0fab1f6218c514ada9b"), looks := false }, kinds := [], alts := [], laidByText := true, laidKinds := [.data], laidTests := true, laidLooks := .later }
def FnExactIsExpressionCardSaid : Prop := Claim7.holds Tryd.pinned (.plain (OpenSpec.ofChange fnExactIsExpressionSpec)) fnExactIsExpressionCard

/-- THE SECOND FORM's CARD OF 'laws.FnExactIsExpression'. -/
def fnExactIsExpressionUptoCard : Claim7 := { stood := { row := fnExactIsExpressionUptoRow, standIns := [], harness := (true, "d1139d916de84ac79565f5d544e79f6867c3b93bf407b0fab1f6218c514ada9b"), looks := false }, kinds := [], alts := [], laidByText := true, laidKinds := [.data], laidTests := true, laidLooks := .later }
def FnExactIsExpressionUptoCardSaid : Prop := Claim7.holds Tryd.pinned (.plain (OpenSpec.upto fnExactIsExpressionSpec)) fnExactIsExpressionUptoCard
end Rows
end Go.Proofs.YtcibmpomidhgiaaDoor
