/-
  DERIVED. GIVEN WITH THE SEED: THE CARDS: each row of YtjfcmiocmcdjlaaGreatDoorRows.lean that lists a variable, with what it lists TIED to the program's text (the seventh form; the later family's looks); each row that meets fmt, with fmt's text TOLD by the authors' own Lean function (tested against real Go, not proved from fmt's source: count such statements apart). THE CARD IS WHAT COUNTS. Prove the row's statement (the work); the ties are given (YtjfcmiocmcdjlaaGreatDoorTie.lean); close each card by the builder's one call (the guide's Derived/Test/ToyasCard.lean, 'card_holds'). Laid BY PROGRAM, IN A SANDBOX (cutbox-door.mjs). By AI agents, Wed Nov 11 2026. No macro, syntax, notation, axiom, sorry.
-/
import Derived.Test.YtjfcmiocmcdjlaaGreatDoorRows
import GoSem.ClaimSeven
namespace Go.Proofs.YtjfcmiocmcdjlaaGreatDoor
namespace Rows

/-- THE TIED CARD OF 'unicodetextlaw39.IdentRanges'. -/
def identRangesCard : Claim7 := { stood := { row := identRangesRow, standIns := [], harness := (true, "f5f64c3a3e9f4605c0d198188438f1f6381253537062e76aed02b54192ddc0f5"), looks := false }, kinds := [], alts := [], laidByText := true, laidKinds := [.data], laidTests := true, laidLooks := .later }
def IdentRangesCardSaid : Prop := Claim7.holds Tryz.pinned (.plain (OpenSpec.ofChange identRangesSpec)) identRangesCard

/-- THE TIED CARD OF 'unicodetextlaw39.IdentLongest'. -/
def identLongestCard : Claim7 := { stood := { row := identLongestRow, standIns := [], harness := (true, "f5f64c3a3e9f4605c0d198188438f1f6381253537062e76aed02b54192ddc0f5"), looks := false }, kinds := [], alts := [], laidByText := true, laidKinds := [.data], laidTests := true, laidLooks := .later }
def IdentLongestCardSaid : Prop := Claim7.holds Tryz.pinned (.plain (OpenSpec.ofChange identLongestSpec)) identLongestCard

/-- THE TIED CARD OF 'unicodetextlaw39.IdentWhole'. -/
def identWholeCard : Claim7 := { stood := { row := identWholeRow, standIns := [], harness := (true, "f5f64c3a3e9f4605c0d198188438f1f6381253537062e76aed02b54192ddc0f5"), looks := false }, kinds := [], alts := [], laidByText := true, laidKinds := [.data], laidTests := true, laidLooks := .later }
def IdentWholeCardSaid : Prop := Claim7.holds Tryz.pinned (.plain (OpenSpec.ofChange identWholeSpec)) identWholeCard

/-- THE TIED CARD OF 'unicodetextlaw39.IdentValid'. -/
def identValidCard : Claim7 := { stood := { row := identValidRow, standIns := [], harness := (true, "f5f64c3a3e9f4605c0d198188438f1f6381253537062e76aed02b54192ddc0f5"), looks := false }, kinds := [], alts := [], laidByText := true, laidKinds := [.data], laidTests := true, laidLooks := .later }
def IdentValidCardSaid : Prop := Claim7.holds Tryz.pinned (.plain (OpenSpec.ofChange identValidSpec)) identValidCard

/-- THE TIED CARD OF 'unicodetextlaw39.IdentSplits'. -/
def identSplitsCard : Claim7 := { stood := { row := identSplitsRow, standIns := [], harness := (true, "f5f64c3a3e9f4605c0d198188438f1f6381253537062e76aed02b54192ddc0f5"), looks := false }, kinds := [], alts := [], laidByText := true, laidKinds := [.data], laidTests := true, laidLooks := .later }
def IdentSplitsCardSaid : Prop := Claim7.holds Tryz.pinned (.plain (OpenSpec.ofChange identSplitsSpec)) identSplitsCard

/-- THE SECOND FORM's CARD OF 'unicodetextlaw39.IdentRanges'. -/
def identRangesUptoCard : Claim7 := { stood := { row := identRangesUptoRow, standIns := [], harness := (true, "f5f64c3a3e9f4605c0d198188438f1f6381253537062e76aed02b54192ddc0f5"), looks := false }, kinds := [], alts := [], laidByText := true, laidKinds := [.data], laidTests := true, laidLooks := .later }
def IdentRangesUptoCardSaid : Prop := Claim7.holds Tryz.pinned (.plain (OpenSpec.upto identRangesSpec)) identRangesUptoCard

/-- THE SECOND FORM's CARD OF 'unicodetextlaw39.IdentLongest'. -/
def identLongestUptoCard : Claim7 := { stood := { row := identLongestUptoRow, standIns := [], harness := (true, "f5f64c3a3e9f4605c0d198188438f1f6381253537062e76aed02b54192ddc0f5"), looks := false }, kinds := [], alts := [], laidByText := true, laidKinds := [.data], laidTests := true, laidLooks := .later }
def IdentLongestUptoCardSaid : Prop := Claim7.holds Tryz.pinned (.plain (OpenSpec.upto identLongestSpec)) identLongestUptoCard

/-- THE SECOND FORM's CARD OF 'unicodetextlaw39.IdentWhole'. -/
def identWholeUptoCard : Claim7 := { stood := { row := identWholeUptoRow, standIns := [], harness := (true, "f5f64c3a3e9f4605c0d198188438f1f6381253537062e76aed02b54192ddc0f5"), looks := false }, kinds := [], alts := [], laidByText := true, laidKinds := [.data], laidTests := true, laidLooks := .later }
def IdentWholeUptoCardSaid : Prop := Claim7.holds Tryz.pinned (.plain (OpenSpec.upto identWholeSpec)) identWholeUptoCard

/-- THE SECOND FORM's CARD OF 'unicodetextlaw39.IdentValid'. -/
def identValidUptoCard : Claim7 := { stood := { row := identValidUptoRow, standIns := [], harness := (true, "f5f64c3a3e9f4605c0d198188438f1f6381253537062e76aed02b54192ddc0f5"), looks := false }, kinds := [], alts := [], laidByText := true, laidKinds := [.data], laidTests := true, laidLooks := .later }
def IdentValidUptoCardSaid : Prop := Claim7.holds Tryz.pinned (.plain (OpenSpec.upto identValidSpec)) identValidUptoCard

/-- THE SECOND FORM's CARD OF 'unicodetextlaw39.IdentSplits'. -/
def identSplitsUptoCard : Claim7 := { stood := { row := identSplitsUptoRow, standIns := [], harness := (true, "f5f64c3a3e9f4605c0d198188438f1f6381253537062e76aed02b54192ddc0f5"), looks := false }, kinds := [], alts := [], laidByText := true, laidKinds := [.data], laidTests := true, laidLooks := .later }
def IdentSplitsUptoCardSaid : Prop := Claim7.holds Tryz.pinned (.plain (OpenSpec.upto identSplitsSpec)) identSplitsUptoCard
end Rows
end Go.Proofs.YtjfcmiocmcdjlaaGreatDoor
