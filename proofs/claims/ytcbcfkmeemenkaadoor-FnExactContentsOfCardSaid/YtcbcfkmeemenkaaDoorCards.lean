/-
  DERIVED. GIVEN WITH THE SEED: THE CARDS: each row of YtcbcfkmeemenkaaDoorRows.lean that lists a variable, with what it lists TIED to the program's text (the seventh form; the later family's looks); each row that meets fmt, with fmt's text TOLD by the authors' own Lean function (tested against real Go, not proved from fmt's source: count such statements apart). THE CARD IS WHAT COUNTS. Prove the row's statement (the work); the ties are given (YtcbcfkmeemenkaaDoorTie.lean); close each card by the builder's one call (the guide's Derived/Test/ToyasCard.lean, 'card_holds'). Laid BY PROGRAM, IN A SANDBOX (cutbox-door.mjs). By AI agents, Wed Nov 11 2026. No macro, syntax, notation, axiom, sorry.
-/
import Derived.Test.YtcbcfkmeemenkaaDoorRows
import GoSem.ClaimSeven
namespace Go.Proofs.YtcbcfkmeemenkaaDoor
namespace Rows

/-- THE TIED CARD OF 'laws.FnExactContentsOf'. -/
def fnExactContentsOfCard : Claim7 := { stood := { row := fnExactContentsOfRow, standIns := [], harness := (true, "bf399239d0ba31e8f8c41e530ad981f5bca33139b4a09cffa88ae17b13412c9c"), looks := false }, kinds := [], alts := [], laidByText := true, laidKinds := [.data], laidTests := true, laidLooks := .later }
def FnExactContentsOfCardSaid : Prop := Claim7.holds Tryd.pinned (.plain (OpenSpec.ofChange fnExactContentsOfSpec)) fnExactContentsOfCard

/-- THE TIED CARD OF 'laws.FnExactIsStarConnected'. -/
def fnExactIsStarConnectedCard : Claim7 := { stood := { row := fnExactIsStarConnectedRow, standIns := [], harness := (true, "bf399239d0ba31e8f8c41e530ad981f5bca33139b4a09cffa88ae17b13412c9c"), looks := false }, kinds := [], alts := [], laidByText := true, laidKinds := [.data], laidTests := true, laidLooks := .later }
def FnExactIsStarConnectedCardSaid : Prop := Claim7.holds Tryd.pinned (.plain (OpenSpec.ofChange fnExactIsStarConnectedSpec)) fnExactIsStarConnectedCard

/-- THE TIED CARD OF 'laws.FnExactStarFault'. -/
def fnExactStarFaultCard : Claim7 := { stood := { row := fnExactStarFaultRow, standIns := [], harness := (true, "bf399239d0ba31e8f8c41e530ad981f5bca33139b4a09cffa88ae17b13412c9c"), looks := false }, kinds := [], alts := [], laidByText := true, laidKinds := [.data], laidTests := true, laidLooks := .later }
def FnExactStarFaultCardSaid : Prop := Claim7.holds Tryd.pinned (.plain (OpenSpec.ofChange fnExactStarFaultSpec)) fnExactStarFaultCard

/-- THE SECOND FORM's CARD OF 'laws.FnExactContentsOf'. -/
def fnExactContentsOfUptoCard : Claim7 := { stood := { row := fnExactContentsOfUptoRow, standIns := [], harness := (true, "bf399239d0ba31e8f8c41e530ad981f5bca33139b4a09cffa88ae17b13412c9c"), looks := false }, kinds := [], alts := [], laidByText := true, laidKinds := [.data], laidTests := true, laidLooks := .later }
def FnExactContentsOfUptoCardSaid : Prop := Claim7.holds Tryd.pinned (.plain (OpenSpec.upto fnExactContentsOfSpec)) fnExactContentsOfUptoCard

/-- THE SECOND FORM's CARD OF 'laws.FnExactIsStarConnected'. -/
def fnExactIsStarConnectedUptoCard : Claim7 := { stood := { row := fnExactIsStarConnectedUptoRow, standIns := [], harness := (true, "bf399239d0ba31e8f8c41e530ad981f5bca33139b4a09cffa88ae17b13412c9c"), looks := false }, kinds := [], alts := [], laidByText := true, laidKinds := [.data], laidTests := true, laidLooks := .later }
def FnExactIsStarConnectedUptoCardSaid : Prop := Claim7.holds Tryd.pinned (.plain (OpenSpec.upto fnExactIsStarConnectedSpec)) fnExactIsStarConnectedUptoCard

/-- THE SECOND FORM's CARD OF 'laws.FnExactStarFault'. -/
def fnExactStarFaultUptoCard : Claim7 := { stood := { row := fnExactStarFaultUptoRow, standIns := [], harness := (true, "bf399239d0ba31e8f8c41e530ad981f5bca33139b4a09cffa88ae17b13412c9c"), looks := false }, kinds := [], alts := [], laidByText := true, laidKinds := [.data], laidTests := true, laidLooks := .later }
def FnExactStarFaultUptoCardSaid : Prop := Claim7.holds Tryd.pinned (.plain (OpenSpec.upto fnExactStarFaultSpec)) fnExactStarFaultUptoCard
end Rows
end Go.Proofs.YtcbcfkmeemenkaaDoor
