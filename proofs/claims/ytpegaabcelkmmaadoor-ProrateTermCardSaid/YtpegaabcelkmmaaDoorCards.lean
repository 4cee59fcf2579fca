/-
  DERIVED. GIVEN WITH THE SEED: THE CARDS: each row of YtpegaabcelkmmaaDoorRows.lean that lists a variable, with what it lists TIED to the program's text (the seventh form; the later family's looks); each row that meets fmt, with fmt's text TOLD by the authors' own Lean function (tested against real Go, not proved from fmt's source: count such statements apart). THE CARD IS WHAT COUNTS. Prove the row's statement (the work); the ties are given (YtpegaabcelkmmaaDoorTie.lean); close each card by the builder's one call (the guide's Derived/Test/ToyasCard.lean, 'card_holds'). Laid BY PROGRAM, IN A SANDBOX (cutbox-door.mjs). By AI agents, Wed Nov 11 2026. No macro, syntax, notation, axiom, sorry.
-/
import Derived.Test.YtpegaabcelkmmaaDoorRows
import GoSem.ClaimSeven
namespace Go.Proofs.YtpegaabcelkmmaaDoor
namespace Rows

/-- THE TIED CARD OF 'quittancelaw11.ProrateDues'. -/
def prorateDuesCard : Claim7 := { stood := { row := prorateDuesRow, standIns := [], harness := (true, "637b8d044b4bb8de18861889ada3f77fbaad0cddb5d7160febfaa99650b2a59e"), looks := false }, kinds := [], alts := [], laidByText := true, laidKinds := [.data], laidTests := true, laidLooks := .later }
def ProrateDuesCardSaid : Prop := Claim7.holds Tryd.pinned (.plain (OpenSpec.ofChange prorateDuesSpec)) prorateDuesCard

/-- THE TIED CARD OF 'quittancelaw11.ProrateChanges'. -/
def prorateChangesCard : Claim7 := { stood := { row := prorateChangesRow, standIns := [], harness := (true, "637b8d044b4bb8de18861889ada3f77fbaad0cddb5d7160febfaa99650b2a59e"), looks := false }, kinds := [], alts := [], laidByText := true, laidKinds := [.data], laidTests := true, laidLooks := .later }
def ProrateChangesCardSaid : Prop := Claim7.holds Tryd.pinned (.plain (OpenSpec.ofChange prorateChangesSpec)) prorateChangesCard

/-- THE TIED CARD OF 'quittancelaw11.ProrateMonths'. -/
def prorateMonthsCard : Claim7 := { stood := { row := prorateMonthsRow, standIns := [], harness := (true, "637b8d044b4bb8de18861889ada3f77fbaad0cddb5d7160febfaa99650b2a59e"), looks := false }, kinds := [], alts := [], laidByText := true, laidKinds := [.data], laidTests := true, laidLooks := .later }
def ProrateMonthsCardSaid : Prop := Claim7.holds Tryd.pinned (.plain (OpenSpec.ofChange prorateMonthsSpec)) prorateMonthsCard

/-- THE TIED CARD OF 'quittancelaw11.ProrateWhole'. -/
def prorateWholeCard : Claim7 := { stood := { row := prorateWholeRow, standIns := [], harness := (true, "637b8d044b4bb8de18861889ada3f77fbaad0cddb5d7160febfaa99650b2a59e"), looks := false }, kinds := [], alts := [], laidByText := true, laidKinds := [.data], laidTests := true, laidLooks := .later }
def ProrateWholeCardSaid : Prop := Claim7.holds Tryd.pinned (.plain (OpenSpec.ofChange prorateWholeSpec)) prorateWholeCard

/-- THE TIED CARD OF 'quittancelaw11.ProrateSides'. -/
def prorateSidesCard : Claim7 := { stood := { row := prorateSidesRow, standIns := [], harness := (true, "637b8d044b4bb8de18861889ada3f77fbaad0cddb5d7160febfaa99650b2a59e"), looks := false }, kinds := [], alts := [], laidByText := true, laidKinds := [.data], laidTests := true, laidLooks := .later }
def ProrateSidesCardSaid : Prop := Claim7.holds Tryd.pinned (.plain (OpenSpec.ofChange prorateSidesSpec)) prorateSidesCard

/-- THE TIED CARD OF 'quittancelaw11.ProrateTerm'. -/
def prorateTermCard : Claim7 := { stood := { row := prorateTermRow, standIns := [], harness := (true, "637b8d044b4bb8de18861889ada3f77fbaad0cddb5d7160febfaa99650b2a59e"), looks := false }, kinds := [], alts := [], laidByText := true, laidKinds := [.data], laidTests := true, laidLooks := .later }
def ProrateTermCardSaid : Prop := Claim7.holds Tryd.pinned (.plain (OpenSpec.ofChange prorateTermSpec)) prorateTermCard

/-- THE SECOND FORM's CARD OF 'quittancelaw11.ProrateDues'. -/
def prorateDuesUptoCard : Claim7 := { stood := { row := prorateDuesUptoRow, standIns := [], harness := (true, "637b8d044b4bb8de18861889ada3f77fbaad0cddb5d7160febfaa99650b2a59e"), looks := false }, kinds := [], alts := [], laidByText := true, laidKinds := [.data], laidTests := true, laidLooks := .later }
def ProrateDuesUptoCardSaid : Prop := Claim7.holds Tryd.pinned (.plain (OpenSpec.upto prorateDuesSpec)) prorateDuesUptoCard

/-- THE SECOND FORM's CARD OF 'quittancelaw11.ProrateChanges'. -/
def prorateChangesUptoCard : Claim7 := { stood := { row := prorateChangesUptoRow, standIns := [], harness := (true, "637b8d044b4bb8de18861889ada3f77fbaad0cddb5d7160febfaa99650b2a59e"), looks := false }, kinds := [], alts := [], laidByText := true, laidKinds := [.data], laidTests := true, laidLooks := .later }
def ProrateChangesUptoCardSaid : Prop := Claim7.holds Tryd.pinned (.plain (OpenSpec.upto prorateChangesSpec)) prorateChangesUptoCard

/-- THE SECOND FORM's CARD OF 'quittancelaw11.ProrateMonths'. -/
def prorateMonthsUptoCard : Claim7 := { stood := { row := prorateMonthsUptoRow, standIns := [], harness := (true, "637b8d044b4bb8de18861889ada3f77fbaad0cddb5d7160febfaa99650b2a59e"), looks := false }, kinds := [], alts := [], laidByText := true, laidKinds := [.data], laidTests := true, laidLooks := .later }
def ProrateMonthsUptoCardSaid : Prop := Claim7.holds Tryd.pinned (.plain (OpenSpec.upto prorateMonthsSpec)) prorateMonthsUptoCard

/-- THE SECOND FORM's CARD OF 'quittancelaw11.ProrateWhole'. -/
def prorateWholeUptoCard : Claim7 := { stood := { row := prorateWholeUptoRow, standIns := [], harness := (true, "637b8d044b4bb8de18861889ada3f77fbaad0cddb5d7160febfaa99650b2a59e"), looks := false }, kinds := [], alts := [], laidByText := true, laidKinds := [.data], laidTests := true, laidLooks := .later }
def ProrateWholeUptoCardSaid : Prop := Claim7.holds Tryd.pinned (.plain (OpenSpec.upto prorateWholeSpec)) prorateWholeUptoCard

/-- THE SECOND FORM's CARD OF 'quittancelaw11.ProrateSides'. -/
def prorateSidesUptoCard : Claim7 := { stood := { row := prorateSidesUptoRow, standIns := [], harness := (true, "637b8d044b4bb8de18861889ada3f77fbaad0cddb5d7160febfaa99650b2a59e"), looks := false }, kinds := [], alts := [], laidByText := true, laidKinds := [.data], laidTests := true, laidLooks := .later }
def ProrateSidesUptoCardSaid : Prop := Claim7.holds Tryd.pinned (.plain (OpenSpec.upto prorateSidesSpec)) prorateSidesUptoCard

/-- THE SECOND FORM's CARD OF 'quittancelaw11.ProrateTerm'. -/
def prorateTermUptoCard : Claim7 := { stood := { row := prorateTermUptoRow, standIns := [], harness := (true, "637b8d044b4bb8de18861889ada3f77fbaad0cddb5d7160febfaa99650b2a59e"), looks := false }, kinds := [], alts := [], laidByText := true, laidKinds := [.data], laidTests := true, laidLooks := .later }
def ProrateTermUptoCardSaid : Prop := Claim7.holds Tryd.pinned (.plain (OpenSpec.upto prorateTermSpec)) prorateTermUptoCard
end Rows
end Go.Proofs.YtpegaabcelkmmaaDoor
