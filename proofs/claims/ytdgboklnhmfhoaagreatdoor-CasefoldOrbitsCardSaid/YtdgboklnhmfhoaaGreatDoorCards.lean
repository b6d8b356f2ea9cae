/-
  DERIVED. GIVEN WITH THE SEED: THE CARDS: each row of YtdgboklnhmfhoaaGreatDoorRows.lean that lists a variable, with what it lists TIED to the program's text (the seventh form; the later family's looks); each row that meets fmt, with fmt's text TOLD by the authors' own Lean function (tested against real Go, not proved from fmt's source: count such statements apart). THE CARD IS WHAT COUNTS. Prove the row's statement (the work); the ties are given (YtdgboklnhmfhoaaGreatDoorTie.lean); close each card by the builder's one call (the guide's Derived/Test/ToyasCard.lean, 'card_holds'). Laid BY PROGRAM, IN A SANDBOX (cutbox-door.mjs). By AI agents, Wed Nov 11 2026. No macro, syntax, notation, axiom, sorry.
-/
import Derived.Test.YtdgboklnhmfhoaaGreatDoorRows
import GoSem.ClaimSeven
namespace Go.Proofs.YtdgboklnhmfhoaaGreatDoor
namespace Rows

/-- THE TIED CARD OF 'unicodetextlaw38.CasefoldFolds'. -/
def casefoldFoldsCard : Claim7 := { stood := { row := casefoldFoldsRow, standIns := [], harness := (true, "149b2b3692358f3d5e018e8b92a9fb4f79086f35b53cf02eb0e25534cb078a4f"), looks := false }, kinds := [], alts := [], laidByText := true, laidKinds := [.data], laidTests := true, laidLooks := .later }
def CasefoldFoldsCardSaid : Prop := Claim7.holds Tryz.pinned (.plain (OpenSpec.ofChange casefoldFoldsSpec)) casefoldFoldsCard

/-- THE TIED CARD OF 'unicodetextlaw38.CasefoldOrbits'. -/
def casefoldOrbitsCard : Claim7 := { stood := { row := casefoldOrbitsRow, standIns := [], harness := (true, "149b2b3692358f3d5e018e8b92a9fb4f79086f35b53cf02eb0e25534cb078a4f"), looks := false }, kinds := [], alts := [], laidByText := true, laidKinds := [.data], laidTests := true, laidLooks := .later }
def CasefoldOrbitsCardSaid : Prop := Claim7.holds Tryz.pinned (.plain (OpenSpec.ofChange casefoldOrbitsSpec)) casefoldOrbitsCard

/-- THE TIED CARD OF 'unicodetextlaw38.CasefoldClosed'. -/
def casefoldClosedCard : Claim7 := { stood := { row := casefoldClosedRow, standIns := [], harness := (true, "149b2b3692358f3d5e018e8b92a9fb4f79086f35b53cf02eb0e25534cb078a4f"), looks := false }, kinds := [], alts := [], laidByText := true, laidKinds := [.data], laidTests := true, laidLooks := .later }
def CasefoldClosedCardSaid : Prop := Claim7.holds Tryz.pinned (.plain (OpenSpec.ofChange casefoldClosedSpec)) casefoldClosedCard

/-- THE TIED CARD OF 'unicodetextlaw38.CasefoldDivides'. -/
def casefoldDividesCard : Claim7 := { stood := { row := casefoldDividesRow, standIns := [], harness := (true, "149b2b3692358f3d5e018e8b92a9fb4f79086f35b53cf02eb0e25534cb078a4f"), looks := false }, kinds := [], alts := [], laidByText := true, laidKinds := [.data], laidTests := true, laidLooks := .later }
def CasefoldDividesCardSaid : Prop := Claim7.holds Tryz.pinned (.plain (OpenSpec.ofChange casefoldDividesSpec)) casefoldDividesCard

/-- THE SECOND FORM's CARD OF 'unicodetextlaw38.CasefoldFolds'. -/
def casefoldFoldsUptoCard : Claim7 := { stood := { row := casefoldFoldsUptoRow, standIns := [], harness := (true, "149b2b3692358f3d5e018e8b92a9fb4f79086f35b53cf02eb0e25534cb078a4f"), looks := false }, kinds := [], alts := [], laidByText := true, laidKinds := [.data], laidTests := true, laidLooks := .later }
def CasefoldFoldsUptoCardSaid : Prop := Claim7.holds Tryz.pinned (.plain (OpenSpec.upto casefoldFoldsSpec)) casefoldFoldsUptoCard

/-- THE SECOND FORM's CARD OF 'unicodetextlaw38.CasefoldOrbits'. -/
def casefoldOrbitsUptoCard : Claim7 := { stood := { row := casefoldOrbitsUptoRow, standIns := [], harness := (true, "149b2b3692358f3d5e018e8b92a9fb4f79086f35b53cf02eb0e25534cb078a4f"), looks := false }, kinds := [], alts := [], laidByText := true, laidKinds := [.data], laidTests := true, laidLooks := .later }
def CasefoldOrbitsUptoCardSaid : Prop := Claim7.holds Tryz.pinned (.plain (OpenSpec.upto casefoldOrbitsSpec)) casefoldOrbitsUptoCard

/-- THE SECOND FORM's CARD OF 'unicodetextlaw38.CasefoldClosed'. -/
def casefoldClosedUptoCard : Claim7 := { stood := { row := casefoldClosedUptoRow, standIns := [], harness := (true, "149b2b3692358f3d5e018e8b92a9fb4f79086f35b53cf02eb0e25534cb078a4f"), looks := false }, kinds := [], alts := [], laidByText := true, laidKinds := [.data], laidTests := true, laidLooks := .later }
def CasefoldClosedUptoCardSaid : Prop := Claim7.holds Tryz.pinned (.plain (OpenSpec.upto casefoldClosedSpec)) casefoldClosedUptoCard

/-- THE SECOND FORM's CARD OF 'unicodetextlaw38.CasefoldDivides'. -/
def casefoldDividesUptoCard : Claim7 := { stood := { row := casefoldDividesUptoRow, standIns := [], harness := (true, "149b2b3692358f3d5e018e8b92a9fb4f79086f35b53cf02eb0e25534cb078a4f"), looks := false }, kinds := [], alts := [], laidByText := true, laidKinds := [.data], laidTests := true, laidLooks := .later }
def CasefoldDividesUptoCardSaid : Prop := Claim7.holds Tryz.pinned (.plain (OpenSpec.upto casefoldDividesSpec)) casefoldDividesUptoCard
end Rows
end Go.Proofs.YtdgboklnhmfhoaaGreatDoor
