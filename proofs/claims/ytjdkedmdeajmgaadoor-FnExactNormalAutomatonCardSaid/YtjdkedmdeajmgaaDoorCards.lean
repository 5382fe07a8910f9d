/-
  DERIVED. GIVEN WITH THE SEED: THE CARDS: each row of YtjdkedmdeajmgaaDoorRows.lean that lists a variable, with what it lists TIED to the program's text (the seventh form; the later family's looks); each row that meets fmt, with fmt's text TOLD by the authors' own Lean function (tested against real Go, not proved from fmt's source: count such statements apart). THE CARD IS WHAT COUNTS. Prove the row's statement (the work); the ties are given (YtjdkedmdeajmgaaDoorTie.lean); close each card by the builder's one call (the guide's Derived/Test/ToyasCard.lean, 'card_holds'). Laid BY PROGRAM, IN A SANDBOX (cutbox-door.mjs). By AI agents, Wed Nov 11 2026. No macro, syntax, notation, axiom, sorry.
-/
import Derived.Test.YtjdkedmdeajmgaaDoorRows
import GoSem.ClaimSeven
namespace Go.Proofs.YtjdkedmdeajmgaaDoor
namespace Rows

/-- THE TIED CARD OF 'laws.FnExactAllNormal'. -/
def fnExactAllNormalCard : Claim7 := { stood := { row := fnExactAllNormalRow, standIns := [], harness := (true, "e80786e2bb38d95ede148e91bf498e0f1ab465c8bced7f862d39e291486588d8"), looks := false }, kinds := [], alts := [], laidByText := true, laidKinds := [.data], laidTests := true, laidLooks := .later }
def FnExactAllNormalCardSaid : Prop := Claim7.holds Tryd.pinned (.plain (OpenSpec.ofChange fnExactAllNormalSpec)) fnExactAllNormalCard

/-- THE TIED CARD OF 'laws.FnExactNormalAutomaton'. -/
def fnExactNormalAutomatonCard : Claim7 := { stood := { row := fnExactNormalAutomatonRow, standIns := [], harness := (true, "e80786e2bb38d95ede148e91bf498e0f1ab465c8bced7f862d39e291486588d8"), looks := false }, kinds := [], alts := [], laidByText := true, laidKinds := [.data], laidTests := true, laidLooks := .later }
def FnExactNormalAutomatonCardSaid : Prop := Claim7.holds Tryd.pinned (.plain (OpenSpec.ofChange fnExactNormalAutomatonSpec)) fnExactNormalAutomatonCard

/-- THE TIED CARD OF 'laws.FnExactListAutomaton'. -/
def fnExactListAutomatonCard : Claim7 := { stood := { row := fnExactListAutomatonRow, standIns := [], harness := (true, "e80786e2bb38d95ede148e91bf498e0f1ab465c8bced7f862d39e291486588d8"), looks := false }, kinds := [], alts := [], laidByText := true, laidKinds := [.data], laidTests := true, laidLooks := .later }
def FnExactListAutomatonCardSaid : Prop := Claim7.holds Tryd.pinned (.plain (OpenSpec.ofChange fnExactListAutomatonSpec)) fnExactListAutomatonCard

/-- THE TIED CARD OF 'laws.FnExactCountAccepted'. -/
def fnExactCountAcceptedCard : Claim7 := { stood := { row := fnExactCountAcceptedRow, standIns := [], harness := (true, "e80786e2bb38d95ede148e91bf498e0f1ab465c8bced7f862d39e291486588d8"), looks := false }, kinds := [], alts := [], laidByText := true, laidKinds := [.data], laidTests := true, laidLooks := .later }
def FnExactCountAcceptedCardSaid : Prop := Claim7.holds Tryd.pinned (.plain (OpenSpec.ofChange fnExactCountAcceptedSpec)) fnExactCountAcceptedCard

/-- THE TIED CARD OF 'laws.FnExactWordsOf'. -/
def fnExactWordsOfCard : Claim7 := { stood := { row := fnExactWordsOfRow, standIns := [], harness := (true, "e80786e2bb38d95ede148e91bf498e0f1ab465c8bced7f862d39e291486588d8"), looks := false }, kinds := [], alts := [], laidByText := true, laidKinds := [.data], laidTests := true, laidLooks := .later }
def FnExactWordsOfCardSaid : Prop := Claim7.holds Tryd.pinned (.plain (OpenSpec.ofChange fnExactWordsOfSpec)) fnExactWordsOfCard

/-- THE TIED CARD OF 'laws.FnExactExpressionAutomaton'. -/
def fnExactExpressionAutomatonCard : Claim7 := { stood := { row := fnExactExpressionAutomatonRow, standIns := [], harness := (true, "e80786e2bb38d95ede148e91bf498e0f1ab465c8bced7f862d39e291486588d8"), looks := false }, kinds := [], alts := [], laidByText := true, laidKinds := [.data], laidTests := true, laidLooks := .later }
def FnExactExpressionAutomatonCardSaid : Prop := Claim7.holds Tryd.pinned (.plain (OpenSpec.ofChange fnExactExpressionAutomatonSpec)) fnExactExpressionAutomatonCard

/-- THE SECOND FORM's CARD OF 'laws.FnExactAllNormal'. -/
def fnExactAllNormalUptoCard : Claim7 := { stood := { row := fnExactAllNormalUptoRow, standIns := [], harness := (true, "e80786e2bb38d95ede148e91bf498e0f1ab465c8bced7f862d39e291486588d8"), looks := false }, kinds := [], alts := [], laidByText := true, laidKinds := [.data], laidTests := true, laidLooks := .later }
def FnExactAllNormalUptoCardSaid : Prop := Claim7.holds Tryd.pinned (.plain (OpenSpec.upto fnExactAllNormalSpec)) fnExactAllNormalUptoCard

/-- THE SECOND FORM's CARD OF 'laws.FnExactNormalAutomaton'. -/
def fnExactNormalAutomatonUptoCard : Claim7 := { stood := { row := fnExactNormalAutomatonUptoRow, standIns := [], harness := (true, "e80786e2bb38d95ede148e91bf498e0f1ab465c8bced7f862d39e291486588d8"), looks := false }, kinds := [], alts := [], laidByText := true, laidKinds := [.data], laidTests := true, laidLooks := .later }
def FnExactNormalAutomatonUptoCardSaid : Prop := Claim7.holds Tryd.pinned (.plain (OpenSpec.upto fnExactNormalAutomatonSpec)) fnExactNormalAutomatonUptoCard

/-- THE SECOND FORM's CARD OF 'laws.FnExactListAutomaton'. -/
def fnExactListAutomatonUptoCard : Claim7 := { stood := { row := fnExactListAutomatonUptoRow, standIns := [], harness := (true, "e80786e2bb38d95ede148e91bf498e0f1ab465c8bced7f862d39e291486588d8"), looks := false }, kinds := [], alts := [], laidByText := true, laidKinds := [.data], laidTests := true, laidLooks := .later }
def FnExactListAutomatonUptoCardSaid : Prop := Claim7.holds Tryd.pinned (.plain (OpenSpec.upto fnExactListAutomatonSpec)) fnExactListAutomatonUptoCard

/-- THE SECOND FORM's CARD OF 'laws.FnExactCountAccepted'. -/
def fnExactCountAcceptedUptoCard : Claim7 := { stood := { row := fnExactCountAcceptedUptoRow, standIns := [], harness := (true, "e80786e2bb38d95ede148e91bf498e0f1ab465c8bced7f862d39e291486588d8"), looks := false }, kinds := [], alts := [], laidByText := true, laidKinds := [.data], laidTests := true, laidLooks := .later }
def FnExactCountAcceptedUptoCardSaid : Prop := Claim7.holds Tryd.pinned (.plain (OpenSpec.upto fnExactCountAcceptedSpec)) fnExactCountAcceptedUptoCard

/-- THE SECOND FORM's CARD OF 'laws.FnExactWordsOf'. -/
def fnExactWordsOfUptoCard : Claim7 := { stood := { row := fnExactWordsOfUptoRow, standIns := [], harness := (true, "e80786e2bb38d95ede148e91bf498e0f1ab465c8bced7f862d39e291486588d8"), looks := false }, kinds := [], alts := [], laidByText := true, laidKinds := [.data], laidTests := true, laidLooks := .later }
def FnExactWordsOfUptoCardSaid : Prop := Claim7.holds Tryd.pinned (.plain (OpenSpec.upto fnExactWordsOfSpec)) fnExactWordsOfUptoCard

/-- THE SECOND FORM's CARD OF 'laws.FnExactExpressionAutomaton'. -/
def fnExactExpressionAutomatonUptoCard : Claim7 := { stood := { row := fnExactExpressionAutomatonUptoRow, standIns := [], harness := (true, "e80786e2bb38d95ede148e91bf498e0f1ab465c8bced7f862d39e291486588d8"), looks := false }, kinds := [], alts := [], laidByText := true, laidKinds := [.data], laidTests := true, laidLooks := .later }
def FnExactExpressionAutomatonUptoCardSaid : Prop := Claim7.holds Tryd.pinned (.plain (OpenSpec.upto fnExactExpressionAutomatonSpec)) fnExactExpressionAutomatonUptoCard
end Rows
end Go.Proofs.YtjdkedmdeajmgaaDoor
