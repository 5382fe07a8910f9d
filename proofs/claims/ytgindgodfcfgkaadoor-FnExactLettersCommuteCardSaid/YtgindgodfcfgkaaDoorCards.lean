/-
  DERIVED. GIVEN WITH THE SEED: THE CARDS: each row of YtgindgodfcfgkaaDoorRows.lean that lists a variable, with what it lists TIED to the program's text (the seventh form; the later family's looks); each row that meets fmt, with fmt's text TOLD by the authors' own Lean function (tested against real Go, not proved from fmt's source: count such statements apart). THE CARD IS WHAT COUNTS. Prove the row's statement (the work); the ties are given (YtgindgodfcfgkaaDoorTie.lean); close each card by the builder's one call (the guide's Derived/Test/ToyasCard.lean, 'card_holds'). Laid BY PROGRAM, IN A SANDBOX (cutbox-door.mjs). By AI agents, Wed Nov 11 2026. No macro, syntax, notation, axiom, sorry.
-/
import Derived.Test.YtgindgodfcfgkaaDoorRows
import GoSem.ClaimSeven
namespace Go.Proofs.YtgindgodfcfgkaaDoor
namespace Rows

/-- THE TIED CARD OF 'laws.FnExactIsClosed'. -/
def fnExactIsClosedCard : Claim7 := { stood := { row := fnExactIsClosedRow, standIns := [], harness := (true, "5394d066091028d75f65bd85db6af626da550f8d1a5b359f2d55519d26bcc147"), looks := false }, kinds := [], alts := [], laidByText := true, laidKinds := [.data], laidTests := true, laidLooks := .later }
def FnExactIsClosedCardSaid : Prop := Claim7.holds Tryd.pinned (.plain (OpenSpec.ofChange fnExactIsClosedSpec)) fnExactIsClosedCard

/-- THE TIED CARD OF 'laws.FnExactLettersCommute'. -/
def fnExactLettersCommuteCard : Claim7 := { stood := { row := fnExactLettersCommuteRow, standIns := [], harness := (true, "5394d066091028d75f65bd85db6af626da550f8d1a5b359f2d55519d26bcc147"), looks := false }, kinds := [], alts := [], laidByText := true, laidKinds := [.data], laidTests := true, laidLooks := .later }
def FnExactLettersCommuteCardSaid : Prop := Claim7.holds Tryd.pinned (.plain (OpenSpec.ofChange fnExactLettersCommuteSpec)) fnExactLettersCommuteCard

/-- THE SECOND FORM's CARD OF 'laws.FnExactIsClosed'. -/
def fnExactIsClosedUptoCard : Claim7 := { stood := { row := fnExactIsClosedUptoRow, standIns := [], harness := (true, "5394d066091028d75f65bd85db6af626da550f8d1a5b359f2d55519d26bcc147"), looks := false }, kinds := [], alts := [], laidByText := true, laidKinds := [.data], laidTests := true, laidLooks := .later }
def FnExactIsClosedUptoCardSaid : Prop := Claim7.holds Tryd.pinned (.plain (OpenSpec.upto fnExactIsClosedSpec)) fnExactIsClosedUptoCard

/-- THE SECOND FORM's CARD OF 'laws.FnExactLettersCommute'. -/
def fnExactLettersCommuteUptoCard : Claim7 := { stood := { row := fnExactLettersCommuteUptoRow, standIns := [], harness := (true, "5394d066091028d75f65bd85db6af626da550f8d1a5b359f2d55519d26bcc147"), looks := false }, kinds := [], alts := [], laidByText := true, laidKinds := [.data], laidTests := true, laidLooks := .later }
def FnExactLettersCommuteUptoCardSaid : Prop := Claim7.holds Tryd.pinned (.plain (OpenSpec.upto fnExactLettersCommuteSpec)) fnExactLettersCommuteUptoCard
end Rows
end Go.Proofs.YtgindgodfcfgkaaDoor
